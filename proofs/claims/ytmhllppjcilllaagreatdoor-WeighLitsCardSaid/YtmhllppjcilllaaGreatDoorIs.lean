import Derived.Test.YtmhllppjcilllaaGreatDoorFb
import Derived.BigGuardPart
import Derived.Test.YtmhllppjcilllaaGreatDoorRj
import Derived.Test.YtmhllppjcilllaaGreatDoorRg
import Derived.Test.YtmhllppjcilllaaGreatDoorSp
import Derived.Test.YtmhllppjcilllaaGreatDoorKp
set_option linter.unusedSimpArgs false
set_option linter.unusedVariables false
section
open Go Go.RowKit Cs
end
section
open Go Go.RowKit Cs
namespace Cs
open Go.Proofs.YtmhllppjcilllaaGreatDoor
theorem oB {N:Nt} {lt:Nat} (h:jL N lt=true):∀ k (hk:k<N.l.length),N.l[k].ins.length≤1000000:=fun k hk=>by
 unfold jL zek yt at h;rw [Bool.and_eq_true,Bool.and_eq_true,Bool.and_eq_true,List.all_eq_true] at h;have:=h.1.1.1 N.l[k] (List.getElem_mem hk);simp only [decide_eq_true_eq] at this;omega
theorem askB_8 {N:Nt} {lt:Nat} (h:jL N lt=true) (hv:zG N=true):N.n≤8:=by
 unfold jL at h;rw [Bool.and_eq_true,hv] at h;simpa using h.2
end Cs
namespace Go.Proofs.YtmhllppjcilllaaGreatDoor
theorem aw_hyp (w:World) (N:Nt) (A:Option Addr) (c:Nat) (Aw:Option Addr) (lw cw:Nat) (At:Option Addr) (lt ct:Nat) (F:Nat→Nat) (hlw:lw≤140737488355328) (hw:Rd w w.heap.size Aw (lw*4) (fun i=>.int .u8 (F i:Nat))) (hF:∀ i,F i<256) (n:Nat) (hn:N.n=(n:Int)) (h8:n≤128) :
  ∀ W,Below w.heap.size w W→Calls Tryz.prog 17 #[yu N A c Aw lw cw At lt ct] W fun e w'=>∃ v g1 c1 g2 c2 F1 F2,e = .returned v∧WtV W.heap.size (n+1) (qK lw F (n+1)) (qL lw F (n+1)) v g1 c1 g2 c2 F1 F2 w'∧Below W.heap.size W w':=fun W h=>by
 refine (zgK W N A c Aw lw cw At lt ct F hlw ((hw.below h).more h.size) hF (n+1) (by omega)).mono ?_;rintro e w' ⟨s1,s2,rfl,hq⟩;obtain ⟨g1,c1,g2,c2,F1,F2,hv⟩:=hq.wt (Nat.succ_pos _);exact ⟨_,g1,c1,g2,c2,F1,F2,rfl,hv,hq.bl⟩
end Go.Proofs.YtmhllppjcilllaaGreatDoor
end
section
set_option maxRecDepth 100000
set_option maxHeartbeats 1000000
open Go Go.RowKit Cs
namespace Cs
open Go.Proofs.YtmhllppjcilllaaGreatDoor
theorem ziz {n d:Nat} (hn:n≤100) (hd:d≤100):Dg (qq n d):=by
 obtain ⟨h1,h2⟩:=zew n d 100 hn hd (by decide);exact ⟨zby _ _,ze7 (e:=7) (Nat.lt_of_le_of_lt h1 (by decide)) (by decide) (by decide),ze7 (e:=7) (Nat.lt_of_le_of_lt h2 (by decide)) (by decide) (by decide)⟩
theorem qd6 {d:Nat} (h:d≤6):qd d≤6:=by unfold qd;split <;> omega
theorem dg_sml {p q:Pr} (h1:p.1≤6) (h2:p.2≤6) (h3:q.1≤6) (h4:q.2≤6):Dg (qp p+qp q):=by
 have e:qp p+qp q=qq (p.1*qd q.2+q.1*qd p.2) (qd p.2*qd q.2):=(zfH _ _ _ _).symm;rw [e];have a1:=Nat.mul_le_mul h1 (qd6 h4);have a2:=Nat.mul_le_mul h3 (qd6 h2);have a3:=Nat.mul_le_mul (qd6 h2) (qd6 h4);exact ziz (by omega) (by omega)
theorem yV (L:List Pr) (k:Nat):(L.map qp).getD k 0=qp (L.getD k (0,0)):=by
 rw [List.getD_eq_getElem?_getD,List.getD_eq_getElem?_getD,List.getElem?_map];cases L[k]? with
 | none=>exact qp_zero.symm
 | some p=>rfl
theorem prF_rf {L:List Pr} {i:Nat} (h:pq (qp (L.getD (i / 2) (0,0)))=L.getD (i / 2) (0,0)):qG L i=zL (L.map qp) i:=by
 unfold qG zL;rw [yV];have e1:(L.getD (i / 2) (0,0)).1=qn (qp (L.getD (i / 2) (0,0))):=(congrArg Prod.fst h).symm;have e2:(L.getD (i / 2) (0,0)).2=(qp (L.getD (i / 2) (0,0))).den:=(congrArg Prod.snd h).symm;rw [← e1,← e2]
theorem qb_sml {p:Pr} (h1:p.1≤6) (h2:p.2≤6):qb (qp p)≤6:=by
 obtain ⟨a,b⟩:=zew p.1 p.2 6 h1 h2 (by decide);have e1:=zdF (x:=qn (qp p)) (m:=7) (by have:qn (qp p)≤6:=a;omega);have e2:=zdF (x:=(qp p).den) (m:=7) (by have:(qp p).den≤6:=b;omega);unfold qb;omega
theorem zil {L H:List Pr} (hl:∀ k,(L.getD k (0,0)).1≤6∧(L.getD k (0,0)).2≤6) (hh:∀ k,(H.getD k (0,0)).1≤6∧(H.getD k (0,0)).2≤6):∀ j,qbs (L.map qp) (H.map qp) j≤12*j
 | 0=>Nat.zero_le _
 | j+1=>by
   have h:=zil hl hh j;have a:=qb_sml (hl (j+1)).1 (hl (j+1)).2;have b:=qb_sml (hh (j+1)).1 (hh (j+1)).2;show qbs (L.map qp) (H.map qp) j+qb ((L.map qp).getD (j+1) 0)+qb ((H.map qp).getD (j+1) 0)≤_;rw [yV,yV];omega
theorem wq_lo {n v:Nat} {lo hi:List Pr} (h1:1≤v) (h2:v≤n):Wq n lo hi (-(v:Int))=(lo.map qp).getD v 0:=by
 rw [yV];unfold Wq qC;have h3 : -(v:Int)<0:=by omega
 have h5:0<v:=h1;simp [Int.natAbs_neg,Int.natAbs_natCast,h1,h2,h3,h5]
theorem wq_hi {n v:Nat} {lo hi:List Pr} (h1:1≤v) (h2:v≤n):Wq n lo hi (v:Int)=(hi.map qp).getD v 0:=by
 rw [yV];unfold Wq qC;have h4:¬ (v:Int)<0:=by omega
 simp [Int.natAbs_natCast,h1,h2,h4]
theorem zjo {W:World} {B m:Nat} {t:TypeId} {v:Value} {f:Nat→Value} (h:W.ownsRow B t 2 v m ((List.range (m*2)).map f)) (hm:0<m):∃ A cap,v = .slice A m cap∧m≤cap∧Rd W W.heap.size A (m*2) f:=by
 have h':=h;obtain ⟨hlen,h2⟩:=h;rcases h2 with ⟨_,h0⟩ | ⟨g,cap,cur,rfl,hb,hg,hc,_,hsz,htk⟩
 ·omega
 ·refine ⟨some ⟨g,0,none⟩,cap,rfl,hc,fun _=>⟨g,0,rfl,(h'.lt g rfl).2,fun i hi=>?_⟩⟩;have h3:(cur.toList.take (m*2))[i]?=((List.range (m*2)).map f)[i]?:=by rw [htk]
  rw [List.getElem?_take_of_lt hi,List.getElem?_map,List.getElem?_range hi] at h3;have e:W.cell? ⟨g,0+i,none⟩=cur[i]?:=by simp [World.cell?,hg]
  rw [e];simpa using h3
end Cs
namespace Go.Proofs.YtmhllppjcilllaaGreatDoor
theorem ziU (w:World) (N:Nt) (A:Option Addr) (c n cl ch:Nat) (lo hi:List Pr) (Al Ah:Option Addr) (hN:NtAt w w.heap.size A N.l) (hv:zG N=true) (hn:N.n=(n:Int)) (hd:qt N=true) (hs:qJ N=true) (ok:WtOk n lo hi)
  (hl:∀ k,(lo.getD k (0,0)).1≤6∧(lo.getD k (0,0)).2≤6) (hh:∀ k,(hi.getD k (0,0)).1≤6∧(hi.getD k (0,0)).2≤6)
  (hlo:Rd w w.heap.size Al ((n+1)*2) (zL (lo.map qp))) (hhi:Rd w w.heap.size Ah ((n+1)*2) (zL (hi.map qp))) (hc1:n+1≤cl) (hc2:n+1≤ch) :
  Calls Tryz.prog 56 #[qg N A c,.agg #[.slice Al (n+1) cl,.slice Ah (n+1) ch]] w fun e w'=>e = .returned (zS (qp ((RP n lo hi).sum N)))∧Below w.heap.size w w':=by
 rw [zhM ok];exact zkb w N A c n cl ch (lo.map qp) (hi.map qp) Al Ah hN hv hn hlo hhi hc1 hc2 (fun k=>by rw [yV];exact ziz (by have:=(hl k).1;omega) (by have:=(hl k).2;omega)) (fun k=>by rw [yV];exact ziz (by have:=(hh k).1;omega) (by have:=(hh k).2;omega))
  (fun k=>by rw [yV,yV];exact dg_sml (hl k).1 (hl k).2 (hh k).1 (hh k).2) (Wq n lo hi) (fun v h1 h2=>wq_lo h1 h2) (fun v h1 h2=>wq_hi h1 h2)
  (fun k hk m=>(q_part ok.wb hv hd hs hn k hk m).dg1) (fun k hk j hj all hall m=>(zjg ok.wb hv hd hs hn k hk j hj all hall m).dg1)
theorem zdJ (w:World) (p:Pr) (q:Rat) (hp:Lp p∧Sp p) (h1:zz (qn q)≤1000000) (h2:zz q.den≤1000000) (h:qp p=q) :
  Calls Tryz.prog 20 #[zI p.1 p.2,zS q] w fun e w'=>e = .returned (.bool true)∧Below w.heap.size w w':=by
 obtain ⟨a,b⟩:=p;have ht1:=fun W=>zcw W a b hp.2.1 hp.2.2;have ht2:=fun W=>rtext02 W q h1 h2;have e1:ptext a b=zgp (qp (a,b)):=ptext_lp hp.1;rw [e1,h] at ht1;obtain ⟨s,hs⟩:∃ s,zgp q=s:=⟨_,rfl⟩;unfold zS at ht2 ⊢;rw [hs] at ht1;simp only [hs] at ht2;obtain ⟨x,hx⟩:∃ x,qn q=x:=⟨_,rfl⟩;obtain ⟨y,hy⟩:∃ x,q.den=x:=⟨_,rfl⟩;simp only [hx,hy] at ht2 ⊢;have q0:=(Kp.nil w).new #[.string (za a),.string (za b)] 33 w.heap.size 2 rfl rfl;have q1:=q0.new #[.string (zc x),.string (zc y)] 42 (w.heap.size+1) 2 (by simp) rfl;have s1:World.cell? _ ⟨w.heap.size,0,none⟩=some (.string (za a)):=(q1.row 1 rfl).cell (i:=0) (by decide);have s2:World.cell? _ ⟨w.heap.size,1,none⟩=some (.string (za b)):=(q1.row 1 rfl).cell (i:=1) (by decide);have s3:World.cell? _ ⟨w.heap.size+1,0,none⟩=some (.string (zc x)):=(q1.row 0 rfl).cell (i:=0) (by decide);have s4:World.cell? _ ⟨w.heap.size+1,1,none⟩=some (.string (zc y)):=(q1.row 0 rfl).cell (i:=1) (by decide);have HT1:=zb ht1;have HT2:=zb ht2;have BL:=zb q1.bl;clear ht1 ht2 q0 q1 hs e1 h hp h1 h2 hx hy;go_enter Tryz.func20, Tryz.ntmps20;go_upto_region 1 with (fail)
 obtain ⟨V,hV⟩:∃ V,(w.alloc (.cells #[.string (za a),.string (za b)] 33)).alloc (.cells #[.string (zc x),.string (zc y)] 42)=V:=⟨_,rfl⟩;obtain ⟨b2,hb2⟩:∃ b,w.heap.size+1=b:=⟨_,rfl⟩;obtain ⟨b1,hb1⟩:∃ b,w.heap.size=b:=⟨_,rfl⟩;have g1:=World.block_lt_of_cell? _ _ s1;have g2:=World.block_lt_of_cell? _ _ s3;rw [hV] at s1 s2 s3 s4 g1 g2 BL ⊢;simp only [hb2] at s3 s4 g2 ⊢;simp only [hb1] at s1 s2 g1 ⊢;clear hV hb1 hb2;have HS:Hid (∀ W,Below V.heap.size V W→W.cell? ⟨b1,0,none⟩=some (.string (za a))∧W.cell? ⟨b1,1,none⟩=some (.string (za b))∧W.cell? ⟨b2,0,none⟩=some (.string (zc x))∧W.cell? ⟨b2,1,none⟩=some (.string (zc y))):=zb fun W hb=>⟨zC hb s1 g1,zC hb s2 g1,zC hb s3 g2,zC hb s4 g2⟩;refine yx (n:=_) (PX:=[zl (.agg #[.string (za a),.string (za b)]),
    zl (.string s),
    zl (.agg #[.string (zc x),.string (zc y)]),
    zl (.string s),
    zl (.bool true),
    zl (.bool true)])
   (AL:=[]) (DP:=[[],[0],[],[2],[1,3],[4]]) (L1:=[0,1,2,3,4,5]) (ex:=[]) (by kernel_rfl) rfl (by kernel_rfl) ?_ ?_ (yH ?_)
 ·repeat' first|exact zW|refine zk ?_ ?_|exact fun _ _ _ _ h _=>h
 ·refine zk (zv rfl [] ?_) (zk ?_ (zk (zv rfl [] ?_) (zk ?_ (zk (zv rfl [(1,some 6),(3,some 8)] ?_) (zk (zv rfl [(4,some 9)] ?_) zW)))));all_goals try (intro vs W hW hd K hK;(try simp only [qa,zl,and_true,List.getD_cons_succ,List.getD_cons_zero] at hd);(first | simp only [hd,zm,Act.put,zj,zi,zh,zg,zf,ze] at hK ⊢ | simp only [zm,Act.put,zj,zi,zh,zg,zf,ze] at hK ⊢ | skip);obtain ⟨m1,m2,m3,m4⟩:=HS.out W hW;go_simp;exact hK.out _ _ rfl (zx _ _) (qU rfl))
  ·refine zJ rfl [(0,some 5)] ?_;intro vs W hW hd K hK;have d0:vs 0 = .agg #[.string (za a),.string (za b)]:=hd 0 (by decide);clear hd;try simp only [d0,zm,Act.put,zj,zi,zh,zg,zf,ze] at hK ⊢
   go_simp;go_at_call 28;(with_reducible first | refine (HT1.out _).mono ?_);rintro e w9 ⟨rfl,hb9⟩;exact hK.out _ _ (rfl) hb9 (fun h=>absurd h (by decide))
  ·refine zJ rfl [(2,some 7)] ?_;intro vs W hW hd K hK;have d2:vs 2 = .agg #[.string (zc x),.string (zc y)]:=hd 2 (by decide);clear hd;try simp only [d2,zm,Act.put,zj,zi,zh,zg,zf,ze] at hK ⊢
   go_simp;go_at_call 58;(with_reducible first | refine (HT2.out _).mono ?_);rintro e w9 ⟨rfl,hb9⟩;exact hK.out _ _ (rfl) hb9 (fun h=>absurd h (by decide))
 refine qQ [(0,some 5),(1,some 6),(2,some 7),(3,some 8),(4,some 9),(5,some 4)] #[true,true,true,true,true,true] 0 ?_;intro vs Wf hW hd hbk hdis kf;simp only [qa,zl,and_true,List.getD_cons_succ,List.getD_cons_zero] at hd;obtain ⟨d0,d1,d2,d3,d4,d5⟩:=hd;clear hbk hdis;try simp only [d0,d1,d2,d3,d4,d5,zm,Act.put,zj,zi,zh,zg,zf,ze]
 clear d0 d1 d2 d3 d4 d5 vs;clear HS;refine qc (by kernel_rfl) ?_ _;all_goals
  try go_wp2
  go_ret;exact ⟨rfl,zw BL.out hW BL.out.size⟩
section
variable (w:World) (N:Nt) (A:Option Addr) (c cl ch ll lh:Nat) (Al Ah:Option Addr)
abbrev RkE (E:Int):Prop:=∀ W,Below w.heap.size w W→Calls Tryz.prog 38 #[qg N A c,.agg #[.slice Al ll cl,.slice Ah lh ch]] W fun e w'=>e = .returned (.int .i64 E)∧Below W.heap.size W w'
end
end Go.Proofs.YtmhllppjcilllaaGreatDoor
end
