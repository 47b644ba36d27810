import Derived.Test.YtmhllppjcilllaaGreatDoorCm
import Derived.Test.YtmhllppjcilllaaGreatDoorD1
set_option linter.unusedSimpArgs false
set_option linter.unusedVariables false
set_option maxRecDepth 100000
set_option maxHeartbeats 2000000
open Go Go.RowKit Cs
namespace Cs
theorem pz (a:Nat):qg a a=0:=by unfold qg;rw [if_neg (Nat.lt_irrefl _),if_pos rfl]
end Cs
namespace Go
structure Kp (w:World) (l:List (Nat×TypeId×Nat×(Nat→Value))) (W:World):Prop where
 bl:Below w.heap.size w W
 rows:∀ r∈l,W.rowIs r.1 r.2.1 r.2.2.1 r.2.2.2
section
variable {w W W':World} {l:List (Nat×TypeId×Nat×(Nat→Value))} {g n:Nat} {t:TypeId} {f:Nat→Value}
theorem Kp.nil (w:World):Kp w [] w:=⟨zy _ _,fun _ h=>(nomatch h)⟩
theorem Kp.below (h:Kp w l W) (hb:Below W.heap.size W W'):Kp w l W':=⟨zx h.bl hb h.bl.size,fun r hr=>zh (h.rows r hr) hb⟩
theorem Kp.add (h:Kp w l W) (hr:W.rowIs g t n f):Kp w ((g,t,n,f)::l) W:=⟨h.bl,fun r hr'=>by
 rcases List.mem_cons.1 hr' with rfl | hr'
 ·exact hr
 ·exact h.rows r hr'⟩
theorem Kp.row (h:Kp w l W) (i:Nat) (hi:l[i]?=some (g,t,n,f)):W.rowIs g t n f:=h.rows _ (List.mem_of_getElem? hi)
theorem Kp.alloc (h:Kp w l W) (o:Obj):Kp w l (W.alloc o):=h.below ((zy _ _).alloc (zv _) _)
theorem Kp.new (h:Kp w l W) (cs:Array Value) (t:TypeId) (g k:Nat) (hg:W.heap.size=g) (hk:cs.size=k):Kp w ((g,t,k,zC cs)::l) (W.alloc (.cells cs t)):=(h.alloc _).add (zI W cs t g k hg hk)
end
end Go
namespace Go.Proofs.YtmhllppjcilllaaGreatDoor
theorem dcmp_any (w:World) (N:Nt) (A:Option Addr) (c:Nat) (hlen:N.l.length≤140737488355328) (hN:NtAt w w.heap.size A N.l) :
  Calls Tryz.prog 25 #[qB N A c] w fun e w'=>e = .returned (.bool (zE N&&qc N))∧Below w.heap.size w w':=by
 by_cases hv:zE N=true
 ·rw [hv,Bool.true_and];exact zc9 w N A c hN hv
 ·have hv:zE N=false:=by simpa using hv
  rw [hv,Bool.false_and];have hck:=fun W h=>zaC W N A c hlen h;rw [show q8 N=1 by unfold q8;rw [hv];rfl] at hck;have HCK:=zc hck;have hbl:Below w.heap.size w (w.alloc (.cells #[.int .i64 N.n,.slice A N.l.length c] 24)):=(zy _ _).alloc (zv _) _;clear hck;go_enter Tryz.func25, Tryz.ntmps25;go_wp2_with fail
  refine (HCK.out _ ((hN.below hbl).more hbl.size)).mono ?_;rintro e w5 ⟨rfl,hb5⟩;replace hbl:=zx hbl hb5 hbl.size;go_wp2;go_ret;exact ⟨rfl,hbl⟩
theorem zcU (w:World) (p q:Pr) (hp:Lp p∧Sp p) (hq:Lp q∧Sp q) (h:qp p=qp q) :
  Calls Tryz.prog 26 #[zD p.1 p.2,zD q.1 q.2] w fun e w'=>e = .returned (.bool true)∧Below w.heap.size w w':=by
 obtain ⟨a,b⟩:=p;obtain ⟨c,d⟩:=q;have hc:=fun W=>qcmp_any W a b c d hp.2.1 hp.2.2 hq.2.1 hq.2.2;rw [cross_eq (show qq a b=qq c d from h),pz] at hc;have ht1:=fun W=>zbZ W a b hp.2.1 hp.2.2;have ht2:=fun W=>zbZ W c d hq.2.1 hq.2.2;have e1:ptext a b=zfv (qp (a,b)):=ziY hp.1;have e2:ptext c d=zfv (qp (c,d)):=ziY hq.1;rw [e1,h] at ht1;rw [e2] at ht2;obtain ⟨s,hs⟩:∃ s,zfv (qp (c,d))=s:=⟨_,rfl⟩;rw [hs] at ht1 ht2;have q0:=(Kp.nil w).new #[.string (zb a),.string (zb b)] 33 w.heap.size 2 rfl rfl;have q1:=q0.new #[.string (zb c),.string (zb d)] 33 (w.heap.size+1) 2 (by simp) rfl;have s1:World.cell? _ ⟨w.heap.size,0,none⟩=some (.string (zb a)):=(q1.row 1 rfl).cell (i:=0) (by decide);have s2:World.cell? _ ⟨w.heap.size,1,none⟩=some (.string (zb b)):=(q1.row 1 rfl).cell (i:=1) (by decide);have s3:World.cell? _ ⟨w.heap.size+1,0,none⟩=some (.string (zb c)):=(q1.row 0 rfl).cell (i:=0) (by decide);have s4:World.cell? _ ⟨w.heap.size+1,1,none⟩=some (.string (zb d)):=(q1.row 0 rfl).cell (i:=1) (by decide);have HC:=zc hc;have HT1:=zc ht1;have HT2:=zc ht2;have BL:=zc q1.bl;clear hc ht1 ht2 q0 q1 hs e1 e2 h hp hq;go_enter Tryz.func26, Tryz.ntmps26;go_upto_region 1 with (fail)
 obtain ⟨V,hV⟩:∃ V,(w.alloc (.cells #[.string (zb a),.string (zb b)] 33)).alloc (.cells #[.string (zb c),.string (zb d)] 33)=V:=⟨_,rfl⟩;rw [hV] at s1 s2 s3 s4 BL ⊢;obtain ⟨b2,hb2⟩:∃ b,w.heap.size=b:=⟨_,rfl⟩;have h2:=World.block_lt_of_cell? _ _ s1;have h3:=World.block_lt_of_cell? _ _ s3;obtain ⟨b3,hb3⟩:∃ b,w.heap.size+1=b:=⟨_,rfl⟩;simp only [hb3] at s3 s4 h3 ⊢;simp only [hb2] at s1 s2 h2 ⊢;clear hV hb3 hb2;have HS:Hid (∀ W,Below V.heap.size V W→W.cell? ⟨b2,0,none⟩=some (.string (zb a))∧W.cell? ⟨b2,1,none⟩=some (.string (zb b))∧W.cell? ⟨b3,0,none⟩=some (.string (zb c))∧W.cell? ⟨b3,1,none⟩=some (.string (zb d))):=zc fun W hb=>⟨zG hb s1 h2,zG hb s2 h2,zG hb s3 h3,zG hb s4 h3⟩;refine yT (n:=_) (PX:=[zm (.agg #[.string (zb a),.string (zb b)]),
    zm (.agg #[.string (zb c),.string (zb d)]),
    zm (.int .i64 0),
    zm (.bool true),
    zm (.bool true),
    zm (.agg #[.string (zb a),.string (zb b)]),
    zm (.string s),
    zm (.agg #[.string (zb c),.string (zb d)]),
    zm (.string s),
    zm (.bool true),
    zm (.bool true),
    zm (.bool true)])
   (AL:=[]) (DP:=[[],[],[0,1],[2],[3],[4],[4,5],[4],[4,7],[4,6,8],[4,9],[10]]) (L1:=[0,1,2,3,4,5,6,7,8,9,10,11]) (ex:=[]) (by kernel_rfl) rfl (by kernel_rfl) ?_ ?_ (ji ?_)
 ·repeat' first|exact qi|refine zo ?_ ?_|exact fun _ _ _ _ h _=>h
 ·refine zo (zw rfl [] ?_) (zo (zw rfl [] ?_) (zo ?_ (zo (zw rfl [(2,some 7)] ?_) (zo (zw rfl [(3,some 8)] ?_) (zo (zw rfl [(4,some 9)] ?_) (zo ?_ (zo (zw rfl [(4,some 9)] ?_) (zo ?_ (zo (zw rfl [(4,some 9),(6,some 11),(8,some 13)] ?_) (zo (zw rfl [(4,some 9),(9,some 14)] ?_) (zo (zw rfl [(10,some 15)] ?_) qi)))))))))));all_goals try (intro vs W hW hd K hK;(try simp only [qh,zm,and_true,List.getD_cons_succ,List.getD_cons_zero] at hd);(first | simp only [hd,zu,Act.put,zk,zj,zi,zg,zf,ze] at hK ⊢ | simp only [zu,Act.put,zk,zj,zi,zg,zf,ze] at hK ⊢ | skip);obtain ⟨m1,m2,m3,m4⟩:=HS.out W hW;go_simp;exact hK.out _ _ rfl (zy _ _) (yM rfl))
  ·refine zZ rfl [(0,some 5),(1,some 6)] ?_;intro vs W hW hd K hK;have d0:vs 0 = .agg #[.string (zb a),.string (zb b)]:=hd 0 (by decide);have d1:vs 1 = .agg #[.string (zb c),.string (zb d)]:=hd 1 (by decide);clear hd;try simp only [d0,d1,zu,Act.put,zk,zj,zi,zg,zf,ze] at hK ⊢
   go_simp;go_at_call 68;(with_reducible first | refine (HC.out _).mono ?_);rintro e w9 ⟨rfl,hb9⟩;exact hK.out _ _ (rfl) hb9 (fun h=>absurd h (by decide))
  ·refine zZ rfl [(4,some 9),(5,some 10)] ?_;intro vs W hW hd K hK;have d4:vs 4 = .bool true:=hd 4 (by decide);have d5:vs 5 = .agg #[.string (zb a),.string (zb b)]:=hd 5 (by decide);clear hd;try simp only [d4,d5,zu,Act.put,zk,zj,zi,zg,zf,ze] at hK ⊢
   go_simp;go_at_call 28;(with_reducible first | refine (HT1.out _).mono ?_);rintro e w9 ⟨rfl,hb9⟩;exact hK.out _ _ (rfl) hb9 (fun h=>absurd h (by decide))
  ·refine zZ rfl [(4,some 9),(7,some 12)] ?_;intro vs W hW hd K hK;have d4:vs 4 = .bool true:=hd 4 (by decide);have d7:vs 7 = .agg #[.string (zb c),.string (zb d)]:=hd 7 (by decide);clear hd;try simp only [d4,d7,zu,Act.put,zk,zj,zi,zg,zf,ze] at hK ⊢
   go_simp;go_at_call 28;(with_reducible first | refine (HT2.out _).mono ?_);rintro e w9 ⟨rfl,hb9⟩;exact hK.out _ _ (rfl) hb9 (fun h=>absurd h (by decide))
 refine yp [(0,some 5),(1,some 6),(2,some 7),(3,some 8),(4,some 9),(5,some 10),(6,some 11),(7,some 12),(8,some 13),(9,some 14),(10,some 15),(11,some 4)] #[true,true,true,true,true,true,true,true,true,true,true,true] 0 ?_;intro vs Wf hW hd hbk hdis kf;simp only [qh,zm,and_true,List.getD_cons_succ,List.getD_cons_zero] at hd;obtain ⟨d0,d1,d2,d3,d4,d5,d6,d7,d8,d9,d10,d11⟩:=hd;clear hbk hdis;try simp only [d0,d1,d2,d3,d4,d5,d6,d7,d8,d9,d10,d11,zu,Act.put,zk,zj,zi,zg,zf,ze]
 clear d0 d1 d2 d3 d4 d5 d6 d7 d8 d9 d10 d11 vs;clear HS;refine z8 (by kernel_rfl) ?_ _;go_wp2;go_ret;exact ⟨rfl,zx BL.out hW BL.out.size⟩
end Go.Proofs.YtmhllppjcilllaaGreatDoor
