import Derived.Test.YtoljkoifgnmbgaaGreatDoorVq
import Derived.WalkMore
import Derived.Deep.CutBlock
import Derived.Deep.CutRange
set_option linter.unusedSimpArgs false
set_option linter.unusedVariables false
set_option maxRecDepth 100000
set_option maxHeartbeats 8000000
open Go Go.RowKit Cs
namespace Go.Proofs.YtoljkoifgnmbgaaGreatDoor
theorem ntotal_any (w:World) (N:Nt) (A Al Ah AL Ao:Option Addr) (b c cl ch cL cO n:Nat) (lo hi L:List Nat) (hT:Tab w) (hbs:b<w.heap.size)
  (h6:w.cell? ⟨b,6,none⟩=some (.func (.func 36) #[] #[])) (h7:w.cell? ⟨b,7,none⟩=some (.func (.func 48) #[] #[])) (h8:w.cell? ⟨b,8,none⟩=some (.slice Al (n+1) cl)) (h9:w.cell? ⟨b,9,none⟩=some (.slice Ah (n+1) ch))
  (h10:w.cell? ⟨b,10,none⟩=some (.slice AL N.l.length cL))
  (hlo:Rd w w.heap.size Al ((n+1)) (natsF lo)) (hhi:Rd w w.heap.size Ah ((n+1)) (natsF hi)) (hL:Rd w w.heap.size AL (N.l.length) (natsF L)) (hO:Rd w w.heap.size Ao (N.l.length*2) (setsF (own N.l)))
  (hv:vld N=true) (hn:N.n=(n:Int))
  (hwd:∀ m,n8 ((RL n lo hi).wide (L.getD (N.l.length-1) 0) ((vl (minus (allTo N.n) ((own N.l).getD (N.l.length-1) 0))).take m))≤100000)
  (hb1:∀ v,1≤v→n8 (lo.getD v 0)≤100000∧n8 (hi.getD v 0)≤100000) (hb2:∀ u,n8 ((RL n lo hi).both u)≤100000) (Y:Nat)
  (hY:Y=(RL n lo hi).wide (L.getD (N.l.length-1) 0) (vl (minus (allTo N.n) ((own N.l).getD (N.l.length-1) 0)))) :
  Calls Tryz.prog 66 #[.pointer (some ⟨b,5,none⟩),ntV N A c,.slice Ao N.l.length cO] w fun e w'=>e = .returned (natV (Y))∧Below w.heap.size w w':=by
 obtain ⟨hn0,hn1,hl0,hl1⟩:=vld_bounds hv;have hn128:=vn_le hv hn;obtain ⟨r,hr⟩:∃ r,N.l.length=r+1:=⟨N.l.length-1,by omega⟩
 have hr1:N.l.length-1=r:=by omega
 rw [hr1,hn] at hwd hY;obtain ⟨bL,oL,rfl,hbL,hcLL⟩:=hL (by omega);obtain ⟨bO,oO,rfl,hbO,hcO⟩:=hO (by omega)
 have hsb:∀ u∈vl (minus (allTo (n:Int)) ((own N.l).getD r 0)),u.natAbs≤n:=fun u hu=>by
  obtain ⟨k,hk,rfl⟩:=vl_mem hu;rw [minus_bit,Bool.and_eq_true] at hk;have h1:=hk.1;rw [allTo_bit] at h1;simp at h1;omega
 have hwi:=fun W (hb:Below w.heap.size w W) x s hs hsm=>nwide_any W b cl ch n lo hi Al Ah x s (hT.below hb) (Nat.lt_of_lt_of_le hbs hb.size) ((hb.cell (p:=⟨b,6,none⟩) hbs).trans h6) ((hb.cell (p:=⟨b,7,none⟩) hbs).trans h7) ((hb.cell (p:=⟨b,8,none⟩) hbs).trans h8) ((hb.cell (p:=⟨b,9,none⟩) hbs).trans h9)
  ((hlo.below hb).more hb.size) ((hhi.below hb).more hb.size) hs hsm hb1 hb2
 have hwi:∀ W,Below w.heap.size w W→Calls Tryz.prog 110 #[.pointer (some ⟨b,5,none⟩),natV (L.getD r 0),setV (minus (allTo (n:Int)) ((own N.l).getD r 0))] W fun e w'=>e = .returned (natV ((RL n lo hi).wide (L.getD r 0) (vl (minus (allTo (n:Int)) ((own N.l).getD r 0)))))∧Below W.heap.size W w' :=
  fun W hb=>hwi W hb _ _ hsb hwd
 have HY0:=hY;have HTB:=hT;clear hY hwd hsb hb1 hb2 hT hlo hhi hr1 h6 h7 h8 h9;have hbx:=((ntNew w N A c 24 _ rfl).alloc (.cells #[.string ⟨#[]⟩] 54));have hrs:=(arrNew (w.alloc (.cells #[.int .i64 N.n,.slice A N.l.length c] 24)) #[.string ⟨#[]⟩] 54 (w.heap.size+1) 1 (by simp) rfl);have hbl:=(((Below.refl w.heap.size w).alloc (zqn _) (.cells #[.int .i64 N.n,.slice A N.l.length c] 24)).alloc (by simp) (.cells #[.string ⟨#[]⟩] 54))
 have hrr:(N.l.length:Int)=(r:Int)+1:=by omega
 go_enter Tryz.func66, Tryz.ntmps66
 go_upto_region 1 with (fail)
 go_cut [7] from 8 to 11 (fun x wx=>x = .int .i64 (r:Int)∧wx.rowIs w.heap.size 24 2 (ntF N A c)∧wx.rowIs (w.heap.size+1) 54 1 (arrF #[.string ⟨#[]⟩])∧Below w.heap.size w wx)
 case first =>
  go_wp2_with fail
  go_meet
  rw [hn,hr] at hbx hrs hbl;exact ⟨by go_num,hbx,hrs,hbl⟩
 case rest =>
 obtain ⟨rfl,hbx,rr,hbc⟩:=hcut;have h5:=(hbc.cell (p:=⟨b,10,none⟩) hbs).trans h10;have o1:wc.cell? ⟨bO,oO+r*2,none⟩=some (.int .u64 (Cs.lo ((own N.l).getD r 0):Int)):=(hbc.cell (p:=⟨bO,oO+r*2,none⟩) hbO).trans ((hcO (r*2) (by omega)).trans (by rw [sets_0]));have o2:wc.cell? ⟨bO,oO+r*2+1,none⟩=some (.int .u64 (Cs.hi ((own N.l).getD r 0):Int)):=(hbc.cell (p:=⟨bO,oO+r*2+1,none⟩) hbO).trans ((hcO (r*2+1) (by omega)).trans (by rw [sets_1]))
 have cn:wc.cell? ⟨w.heap.size,0,none⟩=some (.int .i64 (n:Int)):=by rw [← hn];exact hbx.cell (i:=0) (by decide)
 have hS0:=h5;have lx:wc.cell? ⟨bL,oL+r,none⟩=some (.string (natB (L.getD r 0))):=(hbc.cell (p:=⟨bL,oL+r,none⟩) hbL).trans (hcLL r (by omega));obtain ⟨x,hx⟩:∃ x,L.getD r 0=x:=⟨_,rfl⟩;rw [hx] at lx hwi HY0;obtain ⟨s,hs⟩:∃ s,(own N.l).getD r 0=s:=⟨_,rfl⟩;rw [hs] at o1 o2 hwi HY0;obtain ⟨y,hy⟩:∃ y,(RL n lo hi).wide x (vl (minus (allTo (n:Int)) s))=y:=⟨_,rfl⟩;rw [hy] at hwi;have HY:=zqh (HY0.trans hy);have HWI:=zqh hwi;have hbw:b<wc.heap.size:=Nat.lt_of_lt_of_le hbs hbc.size;have hbLw:bL<wc.heap.size:=Nat.lt_of_lt_of_le hbL hbc.size;have hbOw:bO<wc.heap.size:=Nat.lt_of_lt_of_le hbO hbc.size;have hxw:=hbx.lt
 have i1:(0:Int)≤(r:Int):=by omega
 have i2:(r:Int)<(N.l.length:Int):=by omega
 clear hwi hy HY0 hs hcLL hcO h5 h10 hrs hbl hr hx hrr hl0 hl1;have s1:=hS0;have s2:=lx;have s3:=cn;have s4:=o1;have s5:=o2;clear hS0 lx cn o1 o2
 go_wp2_with fail
 have HS:Hid (∀ W,Below wc.heap.size wc W→W.cell? ⟨b,10,none⟩=some (.slice (some ⟨bL,oL,none⟩) N.l.length cL)∧W.cell? ⟨bL,oL+r,none⟩=some (.string (natB x))∧W.cell? ⟨w.heap.size,0,none⟩=some (.int .i64 (n:Int))∧W.cell? ⟨bO,oO+r*2,none⟩=some (.int .u64 (Cs.lo s:Int))∧W.cell? ⟨bO,oO+r*2+1,none⟩=some (.int .u64 (Cs.hi s:Int))):=zqh fun W hb=>⟨(hb.cell (p:=⟨b,10,none⟩) hbw).trans s1,(hb.cell (p:=⟨bL,oL+r,none⟩) hbLw).trans s2,(hb.cell (p:=⟨w.heap.size,0,none⟩) hxw).trans s3,(hb.cell (p:=⟨bO,oO+r*2,none⟩) hbOw).trans s4,(hb.cell (p:=⟨bO,oO+r*2+1,none⟩) hbOw).trans s5⟩
 refine wp_region_props (n:=_) (PX:=[zqu (.pointer (some ⟨b,5,none⟩)),
    zqu (.pointer (some ⟨b,5,none⟩)),
    zqu (.pointer (some ⟨b,5,none⟩)),
    zqu (.pointer (some ⟨b,10,none⟩)),
    zqu (.slice (some ⟨bL,oL,none⟩) N.l.length cL),
    zqu (.int .i64 (r:Int)),
    zqu (.pointer (some ⟨bL,oL+r,none⟩)),
    zqu (.agg #[.string (natB x)]),
    zqu (.pointer (some ⟨w.heap.size,0,none⟩)),
    zqu (.int .i64 (n:Int)),
    zqu (setV (allTo (n:Int))),
    zqu (.slice (some ⟨bO,oO,none⟩) N.l.length cO),
    zqu (.int .i64 (r:Int)),
    zqu (.pointer (some ⟨bO,oO+r*2,none⟩)),
    zqu (setV s),
    zqu (setV (minus (allTo (n:Int)) s)),
    zqu (.agg #[.string (natB y)])])
   (AL:=[]) (DP:=[[],[],[1],[2],[3],[],[4,5],[6],[],[8],[9],[],[],[11,12],[13],[10,14],[0,7,15]]) (L1:=[0,1,2,3,4,5,6,7,8,9,10,11,12,13,14,15,16]) (ex:=[]) (by kernel_rfl) rfl (by kernel_rfl) ?_ ?_ (fin0 ?_)
 ·refine zqg ?_ (zqg ?_ (zqg ?_ (zqg ?_ (zqg ?_ (zqg ?_ (zqg ?_ (zqg ?_ (zqg ?_ (zqg ?_ (zqg ?_ (zqg ?_ (zqg ?_ (zqg ?_ (zqg ?_ (zqg ?_ (zqg ?_ zqi))))))))))))))))
  iterate 17 exact fun _ _ _ _ h _=>h
 ·refine zqg ?_ (zqg ?_ (zqg ?_ (zqg ?_ (zqg ?_ (zqg ?_ (zqg ?_ (zqg ?_ (zqg ?_ (zqg ?_ (zqg ?_ (zqg ?_ (zqg ?_ (zqg ?_ (zqg ?_ (zqg ?_ (zqg ?_ zqi))))))))))))))))
  ·refine zso rfl [] ?_;intro vs W hW hd K hK;clear hd
   try simp only [putsD,Act.put,zqa,zqb,zqc,zqd,zqe,zqf] at hK ⊢
   go_simp
   exact hK.out _ _ rfl (zqr _ _) (zqv rfl)
  ·refine zso rfl [] ?_;intro vs W hW hd K hK;clear hd
   try simp only [putsD,Act.put,zqa,zqb,zqc,zqd,zqe,zqf] at hK ⊢
   go_simp
   exact hK.out _ _ rfl (zqr _ _) (zqv rfl)
  ·refine zso rfl [(1,some 13)] ?_;intro vs W hW hd K hK;have d1:vs 1 = .pointer (some ⟨b,5,none⟩):=hd 1 (by decide);clear hd
   try simp only [d1,putsD,Act.put,zqa,zqb,zqc,zqd,zqe,zqf] at hK ⊢
   go_simp
   exact hK.out _ _ rfl (zqr _ _) (zqv rfl)
  ·refine zso rfl [(2,some 14)] ?_;intro vs W hW hd K hK;have d2:vs 2 = .pointer (some ⟨b,5,none⟩):=hd 2 (by decide);clear hd
   try simp only [d2,putsD,Act.put,zqa,zqb,zqc,zqd,zqe,zqf] at hK ⊢
   obtain ⟨m1,m2,m3,m4,m5⟩:=HS.out W hW
   go_simp
   exact hK.out _ _ rfl (zqr _ _) (zqv rfl)
  ·refine zso rfl [(3,some 15)] ?_;intro vs W hW hd K hK;have d3:vs 3 = .pointer (some ⟨b,10,none⟩):=hd 3 (by decide);clear hd
   try simp only [d3,putsD,Act.put,zqa,zqb,zqc,zqd,zqe,zqf] at hK ⊢
   obtain ⟨m1,m2,m3,m4,m5⟩:=HS.out W hW
   go_simp
   exact hK.out _ _ rfl (zqr _ _) (zqv rfl)
  ·refine zso rfl [] ?_;intro vs W hW hd K hK;clear hd
   try simp only [putsD,Act.put,zqa,zqb,zqc,zqd,zqe,zqf] at hK ⊢
   go_simp
   exact hK.out _ _ rfl (zqr _ _) (zqv rfl)
  ·refine zso rfl [(4,some 16),(5,some 17)] ?_;intro vs W hW hd K hK;have d4:vs 4 = .slice (some ⟨bL,oL,none⟩) N.l.length cL:=hd 4 (by decide);have d5:vs 5 = .int .i64 (r:Int):=hd 5 (by decide);clear hd
   try simp only [d4,d5,putsD,Act.put,zqa,zqb,zqc,zqd,zqe,zqf] at hK ⊢
   obtain ⟨m1,m2,m3,m4,m5⟩:=HS.out W hW
   go_simp
   exact hK.out _ _ rfl (zqr _ _) (zqv rfl)
  ·refine zso rfl [(6,some 18)] ?_;intro vs W hW hd K hK;have d6:vs 6 = .pointer (some ⟨bL,oL+r,none⟩):=hd 6 (by decide);clear hd
   try simp only [d6,putsD,Act.put,zqa,zqb,zqc,zqd,zqe,zqf] at hK ⊢
   obtain ⟨m1,m2,m3,m4,m5⟩:=HS.out W hW
   go_simp
   exact hK.out _ _ rfl (zqr _ _) (zqv rfl)
  ·refine zso rfl [] ?_;intro vs W hW hd K hK;clear hd
   try simp only [putsD,Act.put,zqa,zqb,zqc,zqd,zqe,zqf] at hK ⊢
   obtain ⟨m1,m2,m3,m4,m5⟩:=HS.out W hW
   go_simp
   exact hK.out _ _ rfl (zqr _ _) (zqv rfl)
  ·refine zso rfl [(8,some 20)] ?_;intro vs W hW hd K hK;have d8:vs 8 = .pointer (some ⟨w.heap.size,0,none⟩):=hd 8 (by decide);clear hd
   try simp only [d8,putsD,Act.put,zqa,zqb,zqc,zqd,zqe,zqf] at hK ⊢
   obtain ⟨m1,m2,m3,m4,m5⟩:=HS.out W hW
   go_simp
   exact hK.out _ _ rfl (zqr _ _) (zqv rfl)
  ·refine zso rfl [(9,some 21)] ?_;intro vs W hW hd K hK;have d9:vs 9 = .int .i64 (n:Int):=hd 9 (by decide);clear hd
   try simp only [d9,putsD,Act.put,zqa,zqb,zqc,zqd,zqe,zqf] at hK ⊢
   go_simp
   go_at_call 112
   (with_reducible first | refine (all_any _ _).mono ?_)
   rintro e w9 ⟨rfl,hb9⟩;exact hK.out _ _ (rfl) hb9 (fun h=>absurd h (by decide))
  ·refine zso rfl [] ?_;intro vs W hW hd K hK;clear hd
   try simp only [putsD,Act.put,zqa,zqb,zqc,zqd,zqe,zqf] at hK ⊢
   go_simp
   exact hK.out _ _ rfl (zqr _ _) (zqv rfl)
  ·refine zso rfl [] ?_;intro vs W hW hd K hK;clear hd
   try simp only [putsD,Act.put,zqa,zqb,zqc,zqd,zqe,zqf] at hK ⊢
   go_simp
   exact hK.out _ _ rfl (zqr _ _) (zqv rfl)
  ·refine zso rfl [(11,some 23),(12,some 24)] ?_;intro vs W hW hd K hK;have d11:vs 11 = .slice (some ⟨bO,oO,none⟩) N.l.length cO:=hd 11 (by decide);have d12:vs 12 = .int .i64 (r:Int):=hd 12 (by decide);clear hd
   try simp only [d11,d12,putsD,Act.put,zqa,zqb,zqc,zqd,zqe,zqf] at hK ⊢
   obtain ⟨m1,m2,m3,m4,m5⟩:=HS.out W hW
   go_simp
   exact hK.out _ _ rfl (zqr _ _) (zqv rfl)
  ·refine zso rfl [(13,some 25)] ?_;intro vs W hW hd K hK;have d13:vs 13 = .pointer (some ⟨bO,oO+r*2,none⟩):=hd 13 (by decide);clear hd
   try simp only [d13,putsD,Act.put,zqa,zqb,zqc,zqd,zqe,zqf] at hK ⊢
   obtain ⟨m1,m2,m3,m4,m5⟩:=HS.out W hW
   go_simp
   exact hK.out _ _ rfl (zqr _ _) (zqv rfl)
  ·refine zso rfl [(10,some 22),(14,some 26)] ?_;intro vs W hW hd K hK;have d10:vs 10=setV (allTo (n:Int)):=hd 10 (by decide);have d14:vs 14=setV s:=hd 14 (by decide);clear hd
   try simp only [d10,d14,putsD,Act.put,zqa,zqb,zqc,zqd,zqe,zqf] at hK ⊢
   go_simp
   go_at_call 111
   (with_reducible first | refine (minus_any _ _ _).mono ?_)
   rintro e w9 ⟨rfl,hb9⟩;exact hK.out _ _ (rfl) hb9 (fun h=>absurd h (by decide))
  ·refine zso rfl [(0,some 12),(7,some 19),(15,some 27)] ?_;intro vs W hW hd K hK;have d0:vs 0 = .pointer (some ⟨b,5,none⟩):=hd 0 (by decide);have d7:vs 7 = .agg #[.string (natB x)]:=hd 7 (by decide);have d15:vs 15=setV (minus (allTo (n:Int)) s):=hd 15 (by decide);clear hd
   try simp only [d0,d7,d15,putsD,Act.put,zqa,zqb,zqc,zqd,zqe,zqf] at hK ⊢
   go_simp
   go_at_call 110
   (with_reducible first | refine (HWI.out _ (zqx hbc hW hbc.size)).mono ?_)
   rintro e w9 ⟨rfl,hb9⟩;exact hK.out _ _ (rfl) hb9 (fun h=>absurd h (by decide))
 refine FinOk.intro [(0,some 12),(1,some 13),(2,some 14),(3,some 15),(4,some 16),(5,some 17),(6,some 18),(7,some 19),(8,some 20),(9,some 21),(10,some 22),(11,some 23),(12,some 24),(13,some 25),(14,some 26),(15,some 27),(16,some 28)] #[true,true,true,true,true,true,true,true,true,true,true,true,true,true,true,true,true,false] 1 (by kernel_rfl) (by kernel_rfl) (by kernel_rfl) ?_;intro vs Wf hW0 hd hbk hdis kf;have hW:=zqw hW0;have d0:vs 0 = .pointer (some ⟨b,5,none⟩):=hd 0 (by decide);have d1:vs 1 = .pointer (some ⟨b,5,none⟩):=hd 1 (by decide);have d2:vs 2 = .pointer (some ⟨b,5,none⟩):=hd 2 (by decide);have d3:vs 3 = .pointer (some ⟨b,10,none⟩):=hd 3 (by decide);have d4:vs 4 = .slice (some ⟨bL,oL,none⟩) N.l.length cL:=hd 4 (by decide);have d5:vs 5 = .int .i64 (r:Int):=hd 5 (by decide);have d6:vs 6 = .pointer (some ⟨bL,oL+r,none⟩):=hd 6 (by decide);have d7:vs 7 = .agg #[.string (natB x)]:=hd 7 (by decide);have d8:vs 8 = .pointer (some ⟨w.heap.size,0,none⟩):=hd 8 (by decide);have d9:vs 9 = .int .i64 (n:Int):=hd 9 (by decide);have d10:vs 10=setV (allTo (n:Int)):=hd 10 (by decide);have d11:vs 11 = .slice (some ⟨bO,oO,none⟩) N.l.length cO:=hd 11 (by decide);have d12:vs 12 = .int .i64 (r:Int):=hd 12 (by decide);have d13:vs 13 = .pointer (some ⟨bO,oO+r*2,none⟩):=hd 13 (by decide);have d14:vs 14=setV s:=hd 14 (by decide);have d15:vs 15=setV (minus (allTo (n:Int)) s):=hd 15 (by decide);have d16:vs 16 = .agg #[.string (natB y)]:=hd 16 (by decide);clear hd hbk hdis hW0
 try simp only [d0,d1,d2,d3,d4,d5,d6,d7,d8,d9,d10,d11,d12,d13,d14,d15,d16,putsD,Act.put,zqa,zqb,zqc,zqd,zqe,zqf]
 clear d0 d1 d2 d3 d4 d5 d6 d7 d8 d9 d10 d11 d12 d13 d14 d15 d16 vs;clear HS;have rf:=rowBelow rr hW;have c0:=rf.cell (i:=0) (by decide);have z0:=rf.frozen 0;refine wpAny_one1 17 (by kernel_rfl) rfl (fun K hK=>?_)
 go_simp
 refine hK.out _ _ ?_;clear hK K
 try simp only [putsD,Act.put,zqa,zqb,zqc,zqd,zqe,zqf]
 refine wpAny_end (by kernel_rfl) ?_ _
 all_goals
  have hbf:=zqx hbc hW hbc.size
  try go_wp2
  exact ret_nat rfl _ rfl ((rf.set 0 (.string (natB y))).congr fun i hi=>by
   have e:i=0:=by omega
   subst e;rfl) rfl ⟨by rw [HY.out],hbf.setCell (by simp <;> omega) _⟩
theorem qtotal_any (w:World) (N:Nt) (A Al Ah AL Ao:Option Addr) (b c cl ch cL cO n:Nat) (lo hi L:List Pr) (hT:Tab w) (hbs:b<w.heap.size)
  (h6:w.cell? ⟨b,13,none⟩=some (.func (.func 50) #[] #[])) (h7:w.cell? ⟨b,14,none⟩=some (.func (.func 51) #[] #[])) (h8:w.cell? ⟨b,15,none⟩=some (.slice Al (n+1) cl)) (h9:w.cell? ⟨b,16,none⟩=some (.slice Ah (n+1) ch))
  (h10:w.cell? ⟨b,17,none⟩=some (.slice AL N.l.length cL))
  (hlo:Rd w w.heap.size Al ((n+1)*2) (prsF lo)) (hhi:Rd w w.heap.size Ah ((n+1)*2) (prsF hi)) (hL:Rd w w.heap.size AL (N.l.length*2) (prsF L)) (hO:Rd w w.heap.size Ao (N.l.length*2) (setsF (own N.l)))
  (hv:vld N=true) (hn:N.n=(n:Int))
  (hwd:∀ m,Sp ((RP n lo hi).wide (L.getD (N.l.length-1) (0,0)) ((vl (minus (allTo N.n) ((own N.l).getD (N.l.length-1) 0))).take m)))
  (hb1:∀ v,1≤v→Sp (lo.getD v (0,0))∧Sp (hi.getD v (0,0))) (hb2:∀ u,Sp ((RP n lo hi).both u)) (Y:Pr)
  (hY:Y=(RP n lo hi).wide (L.getD (N.l.length-1) (0,0)) (vl (minus (allTo N.n) ((own N.l).getD (N.l.length-1) 0)))) :
  Calls Tryz.prog 67 #[.pointer (some ⟨b,11,none⟩),ntV N A c,.slice Ao N.l.length cO] w fun e w'=>e = .returned (ratV (Y).1 (Y).2)∧Below w.heap.size w w':=by
 obtain ⟨hn0,hn1,hl0,hl1⟩:=vld_bounds hv;have hn128:=vn_le hv hn;obtain ⟨r,hr⟩:∃ r,N.l.length=r+1:=⟨N.l.length-1,by omega⟩
 have hr1:N.l.length-1=r:=by omega
 rw [hr1,hn] at hwd hY;obtain ⟨bL,oL,rfl,hbL,hcLL⟩:=hL (by omega);obtain ⟨bO,oO,rfl,hbO,hcO⟩:=hO (by omega)
 have hsb:∀ u∈vl (minus (allTo (n:Int)) ((own N.l).getD r 0)),u.natAbs≤n:=fun u hu=>by
  obtain ⟨k,hk,rfl⟩:=vl_mem hu;rw [minus_bit,Bool.and_eq_true] at hk;have h1:=hk.1;rw [allTo_bit] at h1;simp at h1;omega
 have hwi:=fun W (hb:Below w.heap.size w W) xn xd s hs hsm=>qwide_any W b cl ch n lo hi Al Ah xn xd s (hT.below hb) (Nat.lt_of_lt_of_le hbs hb.size) ((hb.cell (p:=⟨b,13,none⟩) hbs).trans h6) ((hb.cell (p:=⟨b,14,none⟩) hbs).trans h7) ((hb.cell (p:=⟨b,15,none⟩) hbs).trans h8) ((hb.cell (p:=⟨b,16,none⟩) hbs).trans h9)
  ((hlo.below hb).more hb.size) ((hhi.below hb).more hb.size) hs hsm hb1 hb2
 have hwi:∀ W,Below w.heap.size w W→Calls Tryz.prog 113 #[.pointer (some ⟨b,11,none⟩),ratV (L.getD r (0,0)).1 (L.getD r (0,0)).2,setV (minus (allTo (n:Int)) ((own N.l).getD r 0))] W fun e w'=>e = .returned (ratV ((RP n lo hi).wide (L.getD r (0,0)) (vl (minus (allTo (n:Int)) ((own N.l).getD r 0)))).1 ((RP n lo hi).wide (L.getD r (0,0)) (vl (minus (allTo (n:Int)) ((own N.l).getD r 0)))).2)∧Below W.heap.size W w' :=
  fun W hb=>hwi W hb _ _ _ hsb hwd
 have HY0:=hY;have HTB:=hT;clear hY hwd hsb hb1 hb2 hT hlo hhi hr1 h6 h7 h8 h9;have hbx:=((ntNew w N A c 24 _ rfl).alloc (.cells #[.string ⟨#[]⟩,.string ⟨#[]⟩] 60));have hrs:=(arrNew (w.alloc (.cells #[.int .i64 N.n,.slice A N.l.length c] 24)) #[.string ⟨#[]⟩,.string ⟨#[]⟩] 60 (w.heap.size+1) 2 (by simp) rfl);have hbl:=(((Below.refl w.heap.size w).alloc (zqn _) (.cells #[.int .i64 N.n,.slice A N.l.length c] 24)).alloc (by simp) (.cells #[.string ⟨#[]⟩,.string ⟨#[]⟩] 60))
 have hrr:(N.l.length:Int)=(r:Int)+1:=by omega
 go_enter Tryz.func67, Tryz.ntmps67
 go_upto_region 1 with (fail)
 go_cut [7] from 8 to 11 (fun x wx=>x = .int .i64 (r:Int)∧wx.rowIs w.heap.size 24 2 (ntF N A c)∧wx.rowIs (w.heap.size+1) 60 2 (arrF #[.string ⟨#[]⟩,.string ⟨#[]⟩])∧Below w.heap.size w wx)
 case first =>
  go_wp2_with fail
  go_meet
  rw [hn,hr] at hbx hrs hbl;exact ⟨by go_num,hbx,hrs,hbl⟩
 case rest =>
 obtain ⟨rfl,hbx,rr,hbc⟩:=hcut;have h5:=(hbc.cell (p:=⟨b,17,none⟩) hbs).trans h10;have o1:wc.cell? ⟨bO,oO+r*2,none⟩=some (.int .u64 (Cs.lo ((own N.l).getD r 0):Int)):=(hbc.cell (p:=⟨bO,oO+r*2,none⟩) hbO).trans ((hcO (r*2) (by omega)).trans (by rw [sets_0]));have o2:wc.cell? ⟨bO,oO+r*2+1,none⟩=some (.int .u64 (Cs.hi ((own N.l).getD r 0):Int)):=(hbc.cell (p:=⟨bO,oO+r*2+1,none⟩) hbO).trans ((hcO (r*2+1) (by omega)).trans (by rw [sets_1]))
 have cn:wc.cell? ⟨w.heap.size,0,none⟩=some (.int .i64 (n:Int)):=by rw [← hn];exact hbx.cell (i:=0) (by decide)
 have hS0:=h5;have lx:wc.cell? ⟨bL,oL+r*2,none⟩=some (.string (natB (L.getD r (0,0)).1)):=(hbc.cell (p:=⟨bL,oL+r*2,none⟩) hbL).trans ((hcLL (r*2) (by omega)).trans (by rw [prsF_0]));have lx':wc.cell? ⟨bL,oL+r*2+1,none⟩=some (.string (natB (L.getD r (0,0)).2)):=(hbc.cell (p:=⟨bL,oL+r*2+1,none⟩) hbL).trans ((hcLL (r*2+1) (by omega)).trans (by rw [prsF_1]));obtain ⟨x,hx⟩:∃ x,L.getD r (0,0)=x:=⟨_,rfl⟩;rw [hx] at lx lx' hwi HY0;obtain ⟨xn,xd⟩:=x;obtain ⟨s,hs⟩:∃ s,(own N.l).getD r 0=s:=⟨_,rfl⟩;rw [hs] at o1 o2 hwi HY0;obtain ⟨y,hy⟩:∃ y,(RP n lo hi).wide (xn,xd) (vl (minus (allTo (n:Int)) s))=y:=⟨_,rfl⟩;rw [hy] at hwi;obtain ⟨yn,yd⟩:=y;have HY:=zqh (HY0.trans hy);have HWI:=zqh hwi;have hbw:b<wc.heap.size:=Nat.lt_of_lt_of_le hbs hbc.size;have hbLw:bL<wc.heap.size:=Nat.lt_of_lt_of_le hbL hbc.size;have hbOw:bO<wc.heap.size:=Nat.lt_of_lt_of_le hbO hbc.size;have hxw:=hbx.lt
 have i1:(0:Int)≤(r:Int):=by omega
 have i2:(r:Int)<(N.l.length:Int):=by omega
 clear hwi hy HY0 hs hcLL hcO h5 h10 hrs hbl hr hx hrr hl0 hl1;have s1:=hS0;have s2:=lx;have s3:=lx';have s4:=cn;have s5:=o1;have s6:=o2;clear hS0 lx lx' cn o1 o2
 go_wp2_with fail
 have HS:Hid (∀ W,Below wc.heap.size wc W→W.cell? ⟨b,17,none⟩=some (.slice (some ⟨bL,oL,none⟩) N.l.length cL)∧W.cell? ⟨bL,oL+r*2,none⟩=some (.string (natB xn))∧W.cell? ⟨bL,oL+r*2+1,none⟩=some (.string (natB xd))∧W.cell? ⟨w.heap.size,0,none⟩=some (.int .i64 (n:Int))∧W.cell? ⟨bO,oO+r*2,none⟩=some (.int .u64 (Cs.lo s:Int))∧W.cell? ⟨bO,oO+r*2+1,none⟩=some (.int .u64 (Cs.hi s:Int))):=zqh fun W hb=>⟨(hb.cell (p:=⟨b,17,none⟩) hbw).trans s1,(hb.cell (p:=⟨bL,oL+r*2,none⟩) hbLw).trans s2,(hb.cell (p:=⟨bL,oL+r*2+1,none⟩) hbLw).trans s3,(hb.cell (p:=⟨w.heap.size,0,none⟩) hxw).trans s4,(hb.cell (p:=⟨bO,oO+r*2,none⟩) hbOw).trans s5,(hb.cell (p:=⟨bO,oO+r*2+1,none⟩) hbOw).trans s6⟩
 refine wp_region_props (n:=_) (PX:=[zqu (.pointer (some ⟨b,11,none⟩)),
    zqu (.pointer (some ⟨b,11,none⟩)),
    zqu (.pointer (some ⟨b,11,none⟩)),
    zqu (.pointer (some ⟨b,17,none⟩)),
    zqu (.slice (some ⟨bL,oL,none⟩) N.l.length cL),
    zqu (.int .i64 (r:Int)),
    zqu (.pointer (some ⟨bL,oL+r*2,none⟩)),
    zqu (.agg #[.string (natB xn),.string (natB xd)]),
    zqu (.pointer (some ⟨w.heap.size,0,none⟩)),
    zqu (.int .i64 (n:Int)),
    zqu (setV (allTo (n:Int))),
    zqu (.slice (some ⟨bO,oO,none⟩) N.l.length cO),
    zqu (.int .i64 (r:Int)),
    zqu (.pointer (some ⟨bO,oO+r*2,none⟩)),
    zqu (setV s),
    zqu (setV (minus (allTo (n:Int)) s)),
    zqu (.agg #[.string (natB yn),.string (natB yd)])])
   (AL:=[]) (DP:=[[],[],[1],[2],[3],[],[4,5],[6],[],[8],[9],[],[],[11,12],[13],[10,14],[0,7,15]]) (L1:=[0,1,2,3,4,5,6,7,8,9,10,11,12,13,14,15,16]) (ex:=[]) (by kernel_rfl) rfl (by kernel_rfl) ?_ ?_ (fin0 ?_)
 ·refine zqg ?_ (zqg ?_ (zqg ?_ (zqg ?_ (zqg ?_ (zqg ?_ (zqg ?_ (zqg ?_ (zqg ?_ (zqg ?_ (zqg ?_ (zqg ?_ (zqg ?_ (zqg ?_ (zqg ?_ (zqg ?_ (zqg ?_ zqi))))))))))))))))
  iterate 17 exact fun _ _ _ _ h _=>h
 ·refine zqg ?_ (zqg ?_ (zqg ?_ (zqg ?_ (zqg ?_ (zqg ?_ (zqg ?_ (zqg ?_ (zqg ?_ (zqg ?_ (zqg ?_ (zqg ?_ (zqg ?_ (zqg ?_ (zqg ?_ (zqg ?_ (zqg ?_ zqi))))))))))))))))
  ·refine zso rfl [] ?_;intro vs W hW hd K hK;clear hd
   try simp only [putsD,Act.put,zqa,zqb,zqc,zqd,zqe,zqf] at hK ⊢
   go_simp
   exact hK.out _ _ rfl (zqr _ _) (zqv rfl)
  ·refine zso rfl [] ?_;intro vs W hW hd K hK;clear hd
   try simp only [putsD,Act.put,zqa,zqb,zqc,zqd,zqe,zqf] at hK ⊢
   go_simp
   exact hK.out _ _ rfl (zqr _ _) (zqv rfl)
  ·refine zso rfl [(1,some 13)] ?_;intro vs W hW hd K hK;have d1:vs 1 = .pointer (some ⟨b,11,none⟩):=hd 1 (by decide);clear hd
   try simp only [d1,putsD,Act.put,zqa,zqb,zqc,zqd,zqe,zqf] at hK ⊢
   go_simp
   exact hK.out _ _ rfl (zqr _ _) (zqv rfl)
  ·refine zso rfl [(2,some 14)] ?_;intro vs W hW hd K hK;have d2:vs 2 = .pointer (some ⟨b,11,none⟩):=hd 2 (by decide);clear hd
   try simp only [d2,putsD,Act.put,zqa,zqb,zqc,zqd,zqe,zqf] at hK ⊢
   obtain ⟨m1,m2,m3,m4,m5,m6⟩:=HS.out W hW
   go_simp
   exact hK.out _ _ rfl (zqr _ _) (zqv rfl)
  ·refine zso rfl [(3,some 15)] ?_;intro vs W hW hd K hK;have d3:vs 3 = .pointer (some ⟨b,17,none⟩):=hd 3 (by decide);clear hd
   try simp only [d3,putsD,Act.put,zqa,zqb,zqc,zqd,zqe,zqf] at hK ⊢
   obtain ⟨m1,m2,m3,m4,m5,m6⟩:=HS.out W hW
   go_simp
   exact hK.out _ _ rfl (zqr _ _) (zqv rfl)
  ·refine zso rfl [] ?_;intro vs W hW hd K hK;clear hd
   try simp only [putsD,Act.put,zqa,zqb,zqc,zqd,zqe,zqf] at hK ⊢
   go_simp
   exact hK.out _ _ rfl (zqr _ _) (zqv rfl)
  ·refine zso rfl [(4,some 16),(5,some 17)] ?_;intro vs W hW hd K hK;have d4:vs 4 = .slice (some ⟨bL,oL,none⟩) N.l.length cL:=hd 4 (by decide);have d5:vs 5 = .int .i64 (r:Int):=hd 5 (by decide);clear hd
   try simp only [d4,d5,putsD,Act.put,zqa,zqb,zqc,zqd,zqe,zqf] at hK ⊢
   obtain ⟨m1,m2,m3,m4,m5,m6⟩:=HS.out W hW
   go_simp
   exact hK.out _ _ rfl (zqr _ _) (zqv rfl)
  ·refine zso rfl [(6,some 18)] ?_;intro vs W hW hd K hK;have d6:vs 6 = .pointer (some ⟨bL,oL+r*2,none⟩):=hd 6 (by decide);clear hd
   try simp only [d6,putsD,Act.put,zqa,zqb,zqc,zqd,zqe,zqf] at hK ⊢
   obtain ⟨m1,m2,m3,m4,m5,m6⟩:=HS.out W hW
   go_simp
   exact hK.out _ _ rfl (zqr _ _) (zqv rfl)
  ·refine zso rfl [] ?_;intro vs W hW hd K hK;clear hd
   try simp only [putsD,Act.put,zqa,zqb,zqc,zqd,zqe,zqf] at hK ⊢
   obtain ⟨m1,m2,m3,m4,m5,m6⟩:=HS.out W hW
   go_simp
   exact hK.out _ _ rfl (zqr _ _) (zqv rfl)
  ·refine zso rfl [(8,some 20)] ?_;intro vs W hW hd K hK;have d8:vs 8 = .pointer (some ⟨w.heap.size,0,none⟩):=hd 8 (by decide);clear hd
   try simp only [d8,putsD,Act.put,zqa,zqb,zqc,zqd,zqe,zqf] at hK ⊢
   obtain ⟨m1,m2,m3,m4,m5,m6⟩:=HS.out W hW
   go_simp
   exact hK.out _ _ rfl (zqr _ _) (zqv rfl)
  ·refine zso rfl [(9,some 21)] ?_;intro vs W hW hd K hK;have d9:vs 9 = .int .i64 (n:Int):=hd 9 (by decide);clear hd
   try simp only [d9,putsD,Act.put,zqa,zqb,zqc,zqd,zqe,zqf] at hK ⊢
   go_simp
   go_at_call 112
   (with_reducible first | refine (all_any _ _).mono ?_)
   rintro e w9 ⟨rfl,hb9⟩;exact hK.out _ _ (rfl) hb9 (fun h=>absurd h (by decide))
  ·refine zso rfl [] ?_;intro vs W hW hd K hK;clear hd
   try simp only [putsD,Act.put,zqa,zqb,zqc,zqd,zqe,zqf] at hK ⊢
   go_simp
   exact hK.out _ _ rfl (zqr _ _) (zqv rfl)
  ·refine zso rfl [] ?_;intro vs W hW hd K hK;clear hd
   try simp only [putsD,Act.put,zqa,zqb,zqc,zqd,zqe,zqf] at hK ⊢
   go_simp
   exact hK.out _ _ rfl (zqr _ _) (zqv rfl)
  ·refine zso rfl [(11,some 23),(12,some 24)] ?_;intro vs W hW hd K hK;have d11:vs 11 = .slice (some ⟨bO,oO,none⟩) N.l.length cO:=hd 11 (by decide);have d12:vs 12 = .int .i64 (r:Int):=hd 12 (by decide);clear hd
   try simp only [d11,d12,putsD,Act.put,zqa,zqb,zqc,zqd,zqe,zqf] at hK ⊢
   obtain ⟨m1,m2,m3,m4,m5,m6⟩:=HS.out W hW
   go_simp
   exact hK.out _ _ rfl (zqr _ _) (zqv rfl)
  ·refine zso rfl [(13,some 25)] ?_;intro vs W hW hd K hK;have d13:vs 13 = .pointer (some ⟨bO,oO+r*2,none⟩):=hd 13 (by decide);clear hd
   try simp only [d13,putsD,Act.put,zqa,zqb,zqc,zqd,zqe,zqf] at hK ⊢
   obtain ⟨m1,m2,m3,m4,m5,m6⟩:=HS.out W hW
   go_simp
   exact hK.out _ _ rfl (zqr _ _) (zqv rfl)
  ·refine zso rfl [(10,some 22),(14,some 26)] ?_;intro vs W hW hd K hK;have d10:vs 10=setV (allTo (n:Int)):=hd 10 (by decide);have d14:vs 14=setV s:=hd 14 (by decide);clear hd
   try simp only [d10,d14,putsD,Act.put,zqa,zqb,zqc,zqd,zqe,zqf] at hK ⊢
   go_simp
   go_at_call 111
   (with_reducible first | refine (minus_any _ _ _).mono ?_)
   rintro e w9 ⟨rfl,hb9⟩;exact hK.out _ _ (rfl) hb9 (fun h=>absurd h (by decide))
  ·refine zso rfl [(0,some 12),(7,some 19),(15,some 27)] ?_;intro vs W hW hd K hK;have d0:vs 0 = .pointer (some ⟨b,11,none⟩):=hd 0 (by decide);have d7:vs 7 = .agg #[.string (natB xn),.string (natB xd)]:=hd 7 (by decide);have d15:vs 15=setV (minus (allTo (n:Int)) s):=hd 15 (by decide);clear hd
   try simp only [d0,d7,d15,putsD,Act.put,zqa,zqb,zqc,zqd,zqe,zqf] at hK ⊢
   go_simp
   go_at_call 113
   (with_reducible first | refine (HWI.out _ (zqx hbc hW hbc.size)).mono ?_)
   rintro e w9 ⟨rfl,hb9⟩;exact hK.out _ _ (rfl) hb9 (fun h=>absurd h (by decide))
 refine FinOk.intro [(0,some 12),(1,some 13),(2,some 14),(3,some 15),(4,some 16),(5,some 17),(6,some 18),(7,some 19),(8,some 20),(9,some 21),(10,some 22),(11,some 23),(12,some 24),(13,some 25),(14,some 26),(15,some 27),(16,some 28)] #[true,true,true,true,true,true,true,true,true,true,true,true,true,true,true,true,true,false] 1 (by kernel_rfl) (by kernel_rfl) (by kernel_rfl) ?_;intro vs Wf hW0 hd hbk hdis kf;have hW:=zqw hW0;have d0:vs 0 = .pointer (some ⟨b,11,none⟩):=hd 0 (by decide);have d1:vs 1 = .pointer (some ⟨b,11,none⟩):=hd 1 (by decide);have d2:vs 2 = .pointer (some ⟨b,11,none⟩):=hd 2 (by decide);have d3:vs 3 = .pointer (some ⟨b,17,none⟩):=hd 3 (by decide);have d4:vs 4 = .slice (some ⟨bL,oL,none⟩) N.l.length cL:=hd 4 (by decide);have d5:vs 5 = .int .i64 (r:Int):=hd 5 (by decide);have d6:vs 6 = .pointer (some ⟨bL,oL+r*2,none⟩):=hd 6 (by decide);have d7:vs 7 = .agg #[.string (natB xn),.string (natB xd)]:=hd 7 (by decide);have d8:vs 8 = .pointer (some ⟨w.heap.size,0,none⟩):=hd 8 (by decide);have d9:vs 9 = .int .i64 (n:Int):=hd 9 (by decide);have d10:vs 10=setV (allTo (n:Int)):=hd 10 (by decide);have d11:vs 11 = .slice (some ⟨bO,oO,none⟩) N.l.length cO:=hd 11 (by decide);have d12:vs 12 = .int .i64 (r:Int):=hd 12 (by decide);have d13:vs 13 = .pointer (some ⟨bO,oO+r*2,none⟩):=hd 13 (by decide);have d14:vs 14=setV s:=hd 14 (by decide);have d15:vs 15=setV (minus (allTo (n:Int)) s):=hd 15 (by decide);have d16:vs 16 = .agg #[.string (natB yn),.string (natB yd)]:=hd 16 (by decide);clear hd hbk hdis hW0
 try simp only [d0,d1,d2,d3,d4,d5,d6,d7,d8,d9,d10,d11,d12,d13,d14,d15,d16,putsD,Act.put,zqa,zqb,zqc,zqd,zqe,zqf]
 clear d0 d1 d2 d3 d4 d5 d6 d7 d8 d9 d10 d11 d12 d13 d14 d15 d16 vs;clear HS;have rf:=rowBelow rr hW;have c0:=rf.cell (i:=0) (by decide);have z0:=rf.frozen 0;have c1:=rf.cell (i:=1) (by decide);have z1:=rf.frozen 1;refine wpAny_one1 17 (by kernel_rfl) rfl (fun K hK=>?_)
 go_simp
 refine hK.out _ _ ?_;clear hK K
 try simp only [putsD,Act.put,zqa,zqb,zqc,zqd,zqe,zqf]
 refine wpAny_end (by kernel_rfl) ?_ _
 all_goals
  have hbf:=zqx hbc hW hbc.size
  try go_wp2
  exact ret_rat rfl yn yd rfl (ratRow (pairRow rf _ _)) rfl ⟨by rw [HY.out],(hbf.setCell (by simp <;> omega) _).setCell (by simp <;> omega) _⟩
end Go.Proofs.YtoljkoifgnmbgaaGreatDoor
