import Derived.Test.YtmhllppjcilllaaGreatDoorZa
import Derived.Test.YtmhllppjcilllaaGreatDoorBy
import Derived.Test.YtmhllppjcilllaaGreatDoorAw
import Derived.Test.YtmhllppjcilllaaGreatDoorTn
import Derived.Test.YtmhllppjcilllaaGreatDoorDl
import Derived.Laws.EntriesVeiled
set_option linter.unusedSimpArgs false
set_option linter.unusedVariables false
section
end
section
open Go Go.RowKit Cs
namespace Cs
section
variable {N:Nt} {n:Nat} {lo hi:List Pr}
theorem ziY {p:Pr} (h:Lp p):Go.Proofs.YtmhllppjcilllaaGreatDoor.ptext p.1 p.2=zfv (qp p):=by
 obtain ⟨h1,h2⟩:=h;unfold qp;rcases h2 with h2 | ⟨e1,e2⟩
 ·rw [← ptext_q,← h1,← h2]
 ·rw [e1,e2];decide +kernel
end
end Cs
end
section
open Go Go.RowKit Cs
namespace Cs
open Go.Proofs.YtmhllppjcilllaaGreatDoor
theorem zd9 (lw:Nat) (F:Nat→Nat) (v j:Nat):qF lw F v j≤6:=by
 unfold qF;split
 ·omega
 ·split <;> omega
theorem ziW (n d m:Nat) (h1:n≤m) (h2:d≤m) (hm:1≤m):(pq (qq n d)).1≤m∧(pq (qq n d)).2≤m:=by
 constructor
 ·show qn (qq n d)≤m;rw [ja];exact Nat.le_trans (Nat.div_le_self _ _) h1
 ·show (qq n d).den≤m;rw [zhM];refine Nat.le_trans (Nat.div_le_self _ _) ?_;unfold qd;split <;> omega
theorem zfk (lw:Nat) (F:Nat→Nat) (v:Nat):(awl lw F v).1≤6∧(awl lw F v).2≤6:=ziW _ _ 6 (zd9 _ _ _ _) (zd9 _ _ _ _) (by decide)
theorem zfl (lw:Nat) (F:Nat→Nat) (v:Nat):(awh lw F v).1≤6∧(awh lw F v).2≤6:=ziW _ _ 6 (zd9 _ _ _ _) (zd9 _ _ _ _) (by decide)
theorem zhv {x m:Nat} (h:x≤7):nd 2 x≤3:=Nat.le_trans (zeS 2 (by decide) h) (by decide +kernel)
theorem zeP {p:Pr} (h1:p.1≤7) (h2:p.2≤7):yX p≤6:=by
 unfold yX;have a:=zhv (m:=0) h1;have b:nd 2 (qd p.2)≤3:=zhv (m:=0) (by unfold qd;split <;> omega);omega
theorem zf7 {l:List Pr} (h:∀ k,yX (l.getD k (0,0))≤6):∀ m,zJ l m≤6*m
 | 0=>zv _
 | m+1=>by
   show zJ l m+_≤_;have:=zf7 h m;have:=h (m+1);omega
theorem zc2 (f:Nat→Pr) (m k:Nat):((List.range m).map f).getD k (0,0)=if k<m then f k else (0,0):=zil f (0,0) m k
theorem zdg {x:Nat} (h:x≤6):n8 x≤40000:=Nat.le_trans (jb (by omega)) (by decide)
theorem small_in {n:Nat} {f g:Nat→Pr} (hf:∀ v,Lp (f v)∧(f v).1≤6∧(f v).2≤6) (hg:∀ v,Lp (g v)∧(g v).1≤6∧(g v).2≤6):WtIn n ((List.range (n+1)).map f) ((List.range (n+1)).map g):=by
 have e:∀ (f:Nat→Pr),(∀ v,Lp (f v)∧(f v).1≤6∧(f v).2≤6)→∀ k,Lp (((List.range (n+1)).map f).getD k (0,0))∧S0 (((List.range (n+1)).map f).getD k (0,0)):=fun f hf k=>by
  rw [zc2];split
  ·exact ⟨(hf k).1,zdg (hf k).2.1,zdg (hf k).2.2⟩
  ·exact ⟨Lp.zero,zdg (by omega),zdg (by omega)⟩
 exact ⟨by simp,by simp,fun k=>(e f hf k).1,fun k=>(e g hg k).1,(e f hf 0).2,(e g hg 0).2,fun k=>(e f hf k).2.sp,fun k=>(e g hg k).2.sp⟩
theorem aw_ok (lw:Nat) (F:Nat→Nat) (v:Nat):Lp (awl lw F v)∧(awl lw F v).1≤6∧(awl lw F v).2≤6:=⟨Lp.pq (zca _ _),zfk lw F v⟩
theorem aw_okh (lw:Nat) (F:Nat→Nat) (v:Nat):Lp (awh lw F v)∧(awh lw F v).1≤6∧(awh lw F v).2≤6:=⟨Lp.pq (zca _ _),zfl lw F v⟩
theorem aw_in (lw:Nat) (F:Nat→Nat) (n:Nat):WtIn n (oG lw F (n+1)) (oH lw F (n+1)):=small_in (aw_ok lw F) (aw_okh lw F)
theorem zkd {n:Nat} {f g:Nat→Pr} (hn:n≤128) (hf:∀ v,(f v).1≤6∧(f v).2≤6) (hg:∀ v,(g v).1≤6∧(g v).2≤6):¬ 16384<zJ ((List.range (n+1)).map f) n+zJ ((List.range (n+1)).map g) n:=by
 have e:∀ (f:Nat→Pr),(∀ v,(f v).1≤6∧(f v).2≤6)→zJ ((List.range (n+1)).map f) n≤6*n:=fun f hf=>zf7 (fun k=>by
  rw [zc2];split
  ·exact zeP (Nat.le_trans (hf k).1 (by decide)) (Nat.le_trans (hf k).2 (by decide))
  ·exact zeP (by decide) (by decide)) n
 have a:=e f hf;have b:=e g hg;omega
theorem aw_bits (lw:Nat) (F:Nat→Nat) (n:Nat) (hn:n≤128):¬ 16384<zJ (oG lw F (n+1)) n+zJ (oH lw F (n+1)) n:=zkd hn (zfk lw F) (zfl lw F)
theorem zgR {N:Nt} {n:Nat} {lo hi:List Pr} (hb:¬ 16384<zJ lo n+zJ hi n):yv N n lo hi=yS N:=by
 unfold yv;rw [if_neg hb];split
 ·rename_i h;exact h.symm
 ·rfl
section
variable {N:Nt} {n:Nat} {lo hi:List Pr}
theorem sum_sm (ok:WtOk n lo hi) (hv:zE N=true) (hd:qc N=true) (hs:yA N=true) (hn:N.n=(n:Int)):Sm qD (qp ((RP n lo hi).sum N)):=by
 obtain ⟨hn0,hn1,hl0,hl1⟩:=qR hv;have:=jC ok.wb hv hd hs hn N.l.length (zv _) (N.l.length-1) (by omega) (yh N.n) (fun x hx=>by
  have:=zdV hv N.l.length (N.l.length-1) (by omega) (by omega) x hx;rw [zb7];exact decide_eq_true (by omega)) 128
 rw [List.take_length,List.take_of_length_le (zcr _)] at this;rw [zhT ok];exact this
theorem cross_eq {n d n' d':Nat} (h:qq n d=qq n' d'):n*qd d'=n'*qd d :=
 Nat.le_antisymm (Nat.le_of_not_lt fun h1=>absurd ((zeN n' d' n d).2 h1) (by rw [h];exact Rat.lt_irrefl)) (Nat.le_of_not_lt fun h1=>absurd ((zeN n d n' d').2 h1) (by rw [h];exact Rat.lt_irrefl))
theorem Sp.canon {p:Pr} (h:Lp p) (hs:Sp p):Sp (pq (qp p)):=by
 refine ⟨?_,?_⟩
 ·show n8 (qn (qq p.1 p.2))≤_;rw [← h.1];exact hs.1
 ·show n8 (qq p.1 p.2).den≤_;rcases h.2 with e | ⟨e1,e2⟩
  ·rw [← e];exact hs.2
  ·rw [e1,e2,show qq 0 0=0 from rfl];exact Nat.le_trans (jb (by decide)) (by decide)
theorem Sp.sm {q:Rat} (h:Sm (2*qD) q):Sp (pq q) :=
 ⟨zhy _ (2*qD) 100000 h.2.1 (by have:=zhd;omega),zhy _ (2*qD) 100000 h.2.2 (by have:=zhd;omega)⟩
theorem Sm.up {a b:Nat} {q:Rat} (h:Sm a q) (hab:a≤b):Sm b q:=⟨h.1,Nat.lt_of_lt_of_le h.2.1 (Nat.pow_le_pow_right (by decide) hab),Nat.lt_of_lt_of_le h.2.2 (Nat.pow_le_pow_right (by decide) hab)⟩
theorem zj9 {a b:Rat} (a0:0≤a) (b0:0≤b):a / b=qq (qn a*qd b.den) (qd a.den*qn b)∨a / b=0:=by
 by_cases hz:qn b=0
 ·refine Or.inr ?_;have:b=0:=by
   have h:=pQ b0;rw [← h,hz];simp [qq]
  rw [this,Rat.div_def,Rat.inv_zero,Rat.mul_zero]
 ·left;rw [qq_div (qn a) a.den (qn b) b.den (by omega),pQ a0,pQ b0]
theorem zi1 {a b:Rat} (ha:0≤a) (hb:0≤b):0≤a / b:=by
 rcases zj9 ha hb with e | e
 ·rw [e];exact zca _ _
 ·rw [e];exact Rat.le_refl
theorem Sm.div {a b:Rat} (ha:Sm qD a) (hb:Sm qD b):Sm (2*qD) (a / b):=by
 obtain ⟨a0,a1,a2⟩:=ha;obtain ⟨b0,b1,b2⟩:=hb;have e:=zj9 a0 b0;rcases e with e | e
 ·rw [e];have two:(2:Nat)^(2*qD)=2^qD*2^qD:=by rw [← Nat.pow_add];congr 1;omega
  refine Sm.of ?_ ?_
  ·rw [two,qJ b.den_pos];exact Nat.mul_lt_mul_of_lt_of_lt a1 b2
  ·have h1:qd (qd a.den*qn b)≤max 1 (qd a.den*qn b):=by
    generalize qd a.den*qn b=z;unfold qd;split <;> omega
   have h2:qd a.den*qn b<2^(2*qD):=by rw [two,qJ a.den_pos];exact Nat.mul_lt_mul_of_lt_of_lt a2 b1
   have h3:1<2^(2*qD):=Nat.one_lt_two_pow (by have:=zf9;have:=j6;omega);omega
 ·rw [e];exact ⟨Rat.le_refl,by show qn 0<_;exact Nat.two_pow_pos _,by show 1<_;exact Nat.one_lt_two_pow (by have:=zf9;have:=j6;omega)⟩
theorem zgz {k:Nat} (h1:1≤k) (h2:k≤n):(yN N n lo hi n).getD k (0,0)=(RP n (qb n lo [-(k:Int)]) (qe n hi [-(k:Int)])).sum N:=by
 unfold yN;rw [zc2,if_pos (by omega),if_neg (by omega)]
theorem zjz {k:Nat} (h1:1≤k) (h2:k≤n):(yG N n lo hi n).getD k (0,0)=pq (qp ((RP n lo hi).sum N)-qp ((RP n (qb n lo [-(k:Int)]) (qe n hi [-(k:Int)])).sum N)):=by
 unfold yG;rw [zc2,if_pos (by omega),if_neg (by omega)]
theorem lh_sum (hW:WtIn n lo hi) (hb:¬ 16384<zJ lo n+zJ hi n) (hv:zE N=true) (hd:qc N=true) (hs:yA N=true) (hn:N.n=(n:Int)) {k:Nat} (h1:1≤k) (h2:k≤n) :
  qp ((yN N n lo hi n).getD k (0,0))+qp ((yG N n lo hi n).getD k (0,0))=qp ((RP n lo hi).sum N)∧Sp ((yN N n lo hi n).getD k (0,0))∧Sp ((yG N n lo hi n).getD k (0,0)):=by
 rw [zgz h1 h2,zjz h1 h2];have ha:=zjg hW hb hv hd hn k h1 h2;have ok:=hW.okT hb [-(k:Int)];have ok2:=hW.okT hb [(k:Int)];have e:qp ((RP n lo hi).sum N)-qp ((RP n (qb n lo [-(k:Int)]) (qe n hi [-(k:Int)])).sum N)=qp ((RP n (qb n lo [(k:Int)]) (qe n hi [(k:Int)])).sum N):=by rw [ha];grind
 rw [e,zin (qX _)];exact ⟨by rw [ha];exact Rat.add_comm _ _,zeE ok hv hd hs hn,(zeE ok2 hv hd hs hn).canon (oO ok2 N)⟩
def trmS (N:Nt) (n:Nat) (lo hi:List Pr) (t:List Int):Pr:=(RP n (qb n lo t) (qe n hi t)).sum N
def shP (N:Nt) (n:Nat) (lo hi:List Pr) (t:List Int):Pr:=pq (qp (trmS N n lo hi t) / qp ((RP n lo hi).sum N))
theorem xB {t:List Int} (ht:jR N.n t=true) (hE:yv N n lo hi=0) (h0:((RP n lo hi).sum N).1≠0):jU N n lo hi t=(shP N n lo hi t,0):=by
 unfold jU;rw [if_pos ht,if_pos hE,if_neg h0];rfl
theorem zih {t:List Int} (ht:jR N.n t=true) (hE:yv N n lo hi=0) (h0:((RP n lo hi).sum N).1=0):jU N n lo hi t=((0,0),3):=by
 unfold jU;rw [if_pos ht,if_pos hE,if_pos h0]
theorem sh_sp (hW:WtIn n lo hi) (hb:¬ 16384<zJ lo n+zJ hi n) (hv:zE N=true) (hd:qc N=true) (hs:yA N=true) (hn:N.n=(n:Int)) (t:List Int):Lp (shP N n lo hi t)∧Sp (shP N n lo hi t) :=
 ⟨Lp.pq (zi1 (qX _) (qX _)),Sp.sm ((sum_sm (hW.okT hb t) hv hd hs hn).div (sum_sm (hW.ok hb) hv hd hs hn))⟩
theorem zc0 {p:Pr} (h:Lp p):qp p=0↔p.1=0:=by
 constructor
 ·intro e;have h1:=h.1;have e2:qq p.1 p.2=0:=e;rw [e2] at h1;exact h1
 ·intro e;show qq p.1 p.2=0;unfold qq;rw [e];simp
def ql (v pk sg:Nat):Nat→List Int
 | 0=>[]
 | k+1=>if k+1≠v∧pk.testBit k=true then ql v pk sg k++[if sg.testBit k then -((k+1:Nat):Int) else ((k+1:Nat):Int)] else ql v pk sg k
theorem zgf (v pk sg:Nat):∀ k,(ql v pk sg k).length≤k
 | 0=>zv _
 | k+1=>by
   have:=zgf v pk sg k;unfold ql;split
   ·simp;omega
   ·omega
theorem litOk_of {x:Int} {n:Nat} (hn:n≤128) (h:(1≤x∧x≤(n:Int))∨(x≤-1∧-x≤(n:Int))):z7 x (n:Int)=true:=by
 unfold z7 zH;rcases h with h | h
 ·rw [if_pos (by omega)];simp;omega
 ·rw [if_neg (by omega),if_pos (by omega)];simp;omega
theorem termB_of {n:Nat} {t:List Int} (h1:∀ x∈t,z7 x (n:Int)=true) (h2:∀ x∈t,-x ∉ t):jR (n:Int) t=true:=by
 unfold jR;rw [Bool.and_eq_true];refine ⟨List.all_eq_true.2 h1,?_⟩;rw [decide_eq_false (fun ⟨x,h3,h4⟩=>h2 x h3 h4)];rfl
end
end Cs
end
section
set_option maxRecDepth 100000
set_option maxHeartbeats 4000000
open Go Go.RowKit Cs
namespace Cs
theorem zhC {w w':World} {a:Addr} (v:Value) (h:w'.heap[a.block]?=w.heap[a.block]?):(w'.setCell a v).heap[a.block]?=(w.setCell a v).heap[a.block]?:=by
 unfold World.setCell;simp only [Array.getElem?_modify,h]
theorem zjK {D:Nat} {w w':World} (h:Below D w w') (a:Addr) (v:Value):Below D (w.setCell a v) (w'.setCell a v) :=
 ⟨h.os,h.tape,h.output,by rw [yO,yO];exact h.size,fun k hk=>by
   by_cases e:k=a.block
   ·subst e;exact zhC v (h.block _ hk)
   ·rw [Below.heap_setCell _ _ _ _ e,Below.heap_setCell _ _ _ _ e];exact h.block k hk⟩
theorem Bag.both {w wr:World} {D:Nat} {R:List (Nat×TypeId×Nat×Array Value)} (h:Bag w w D R wr) (b:Nat) (v:Value) (hR:∀ r∈R,r.1≠b):Bag (w.setCell ⟨b,0,none⟩ v) (w.setCell ⟨b,0,none⟩ v) D R (wr.setCell ⟨b,0,none⟩ v) :=
 ⟨fun r hr=>(h.rows r hr).setOther (hR r hr) _,zjK h.base _ _,by rw [yO];exact zjK h.bl _ _,by rw [yO];exact h.le,by rw [yO];exact h.wD⟩
theorem Bag.below' {w w0 wr w':World} {D:Nat} {R:List (Nat×TypeId×Nat×Array Value)} {a:Addr} {v:Value} (h:Bag w w0 D R (wr.setCell a v)) (hb:Below wr.heap.size (wr.setCell a v) w'):Bag w w0 D R w' :=
 h.below (by rw [yO];exact hb)
theorem ziT {w w':World} {a:Addr} {v:Value} {g n:Nat} {t:TypeId} {f:Nat→Value} (h:(w.setCell a v).rowIs g t n f) (hb:Below w.heap.size (w.setCell a v) w'):w'.rowIs g t n f :=
 zh h (by rw [yO];exact hb)
end Cs
namespace Go.Proofs.YtmhllppjcilllaaGreatDoor
theorem xF (w:World) (x y b:Nat) (hx:n8 x≤1000000) (hy:n8 y≤1000000) (f:Nat→Value) (hr:w.rowIs b 3 1 f) :
  Calls Tryz.prog 118 #[zM x,zM y,.pointer (some ⟨b,0,none⟩)] w fun e w'=>e = .returned (.tuple #[zM x,.bool false])∧Below w.heap.size (w.setCell ⟨b,0,none⟩ (.int .i64 (qg x y))) w':=by
 have hc:=fun W=>zfg W x y (by omega) (by omega);generalize qg x y=k at *
 have HC:=zc hc;have hbw:=hr.lt;have q0:=(((Bag.zero w).new #[.string (zb x)] 31 w.heap.size 1 rfl rfl).new #[.string (zb y)] 31 (w.heap.size+1) 1 (by simp) rfl).new #[.string ⟨#[]⟩] 31 (w.heap.size+1+1) 1 (by simp) rfl;have m1:=q0.is w.heap.size 1 31 #[.string (zb x)] (by simp) 0 (by decide) (.string (zb x)) rfl;have m2:=q0.is (w.heap.size+1) 1 31 #[.string (zb y)] (by simp) 0 (by decide) (.string (zb y)) rfl;have HNB:Hid (∀ r∈[(w.heap.size+1+1, 31,1,#[Value.string ⟨#[]⟩]),(w.heap.size+1, 31,1,#[.string (zb y)]),(w.heap.size, 31,1,#[.string (zb x)])],r.1≠b):=zc fun r hr=>by
  simp only [List.mem_cons,List.not_mem_nil,or_false] at hr;rcases hr with rfl | rfl | rfl
  ·show w.heap.size+1+1≠b;omega
  ·show w.heap.size+1≠b;omega
  ·show w.heap.size≠b;omega
 clear hc;go_enter Tryz.func118, Tryz.ntmps118;go_wp2_with fail
 refine (HC.out _).mono ?_;rintro e w9 ⟨rfl,hb9⟩;have q1:=q0.below hb9;have y1:=(zh hr q1.bl).frozen 0;have z1:=(zh hr q1.bl).cell (i:=0) (by omega);have q2:=q1.both b (.int .i64 k) HNB.out;have m3:=q2.is w.heap.size 1 31 #[.string (zb x)] (by simp) 0 (by decide) (.string (zb x)) rfl;have m4:_=some (Value.string ⟨#[]⟩):=q2.is0 0 (by decide) (.string ⟨#[]⟩) rfl;have m5:=q2.row0.frozen 0;have hfin:=zjl q2.row0 (.string (zb x));have hbf:=q2.base.setCell (p:=⟨w.heap.size+1+1,0,none⟩) (by simp;omega) (.string (zb x));clear q0 q1 m1 m2 hb9 q2;go_wp2_with fail
 exact zd6 rfl x rfl rfl (hfin.congr fun i hi=>by
  obtain rfl:i=0:=by omega
  rfl) rfl ⟨rfl,hbf⟩
theorem join_cmp (w:World) (n d n' d' z b:Nat) (v:Value) (hn:n8 n≤100000) (hd:n8 d≤100000) (hn':n8 n'≤100000) (hd':n8 d'≤100000) (hz:n8 z≤1000000) (hbw:b<w.heap.size)
  (hf:∀ W,Below w.heap.size w W→Calls Tryz.prog 118 #[zM (n*qd d'),zM (n'*qd d),.pointer (some ⟨b,0,none⟩)] W fun e w'=>e = .returned (.tuple #[zM z,.bool false])∧Below W.heap.size (W.setCell ⟨b,0,none⟩ v) w') :
  Calls Tryz.prog 69 #[zD n d,zD n' d',.func (.func 118) #[] #[.pointer (some ⟨b,0,none⟩)]] w fun e w'=>e = .returned (.tuple #[zD 0 0,.bool false])∧Below w.heap.size (w.setCell ⟨b,0,none⟩ v) w':=by
 have h1:=yx d hd;have h2:=yx d' hd';have hm1:=fun W=>yZ W n (qd d') (by omega) (by omega);have hda:=fun W=>jr W n d (by omega);have hdb:=fun W=>jr W n' d' (by omega);have hm2:=fun W=>yZ W n' (qd d) (by omega) (by omega);have hm3:=fun W=>yZ W (qd d) (qd d') (by omega) (by omega);have b2:=yz (qd d) (qd d');have hnw:=fun W=>zcW W z (qd d*qd d') hz (by omega) (Nat.mul_pos (yc _) (yc _));generalize qn (qq z (qd d*qd d'))=N at *
 generalize (qq z (qd d*qd d')).den=D at *
 generalize n*qd d'=M1 at *
 generalize n'*qd d=M2 at *
 generalize qd d*qd d'=M3 at *
 generalize qd d=Q at *
 generalize qd d'=Q' at *
 have HM1:=zc hm1;have HM2:=zc hm2;have HM3:=zc hm3;have HDA:=zc hda;have HDB:=zc hdb;have HNW:=zc hnw;have HF:=zc hf;clear hm1 hm2 hm3 hda hdb hnw hf b2 h1 h2 hn hd hn' hd' hz;have q0:=((((Bag.zero w).new #[.string (zb n),.string (zb d)] 33 w.heap.size 2 rfl rfl).new #[.string (zb n'),.string (zb d')] 33 (w.heap.size+1) 2 (by simp) rfl).new #[.string ⟨#[]⟩,.string ⟨#[]⟩] 33 (w.heap.size+1+1) 2 (by simp) rfl);go_enter Tryz.func69, Tryz.ntmps69;go_wp2_with fail
 obtain ⟨W,hW⟩:∃ W,((w.alloc (.cells #[.string (zb n),.string (zb d)] 33)).alloc (.cells #[.string (zb n'),.string (zb d')] 33)).alloc (.cells #[.string ⟨#[]⟩,.string ⟨#[]⟩] 33)=W:=⟨_,rfl⟩;rw [hW] at q0 ⊢;clear hW;have HNB:∀ r∈([(w.heap.size+1+1, 33,2,#[Value.string ⟨#[]⟩,.string ⟨#[]⟩]),(w.heap.size+1, 33,2,#[.string (zb n'),.string (zb d')]),(w.heap.size, 33,2,#[.string (zb n),.string (zb d)])]:List (Nat×TypeId×Nat×Array Value)),r.1≠b:=fun r hr=>by
  simp only [List.mem_cons,List.not_mem_nil,or_false] at hr;rcases hr with rfl | rfl | rfl
  ·show w.heap.size+1+1≠b;omega
  ·show w.heap.size+1≠b;omega
  ·show w.heap.size≠b;omega
 have HNW2:W.heap.size≠b:=by have:=q0.bl.size;omega
 have HNX:∀ W',Below w.heap.size w W'→W'.heap.size≠b:=fun W' h=>by have:=h.size;omega
 go_cut [8,9] from 11 to 24 (fun p x wx=>∃ gx,p = .pointer (some ⟨gx,0,none⟩)∧x = .bool false∧Bag (w.setCell ⟨b,0,none⟩ v) (w.setCell ⟨b,0,none⟩ v) w.heap.size ((gx, 31,1,#[.string (zb z)])::[(w.heap.size+1+1, 33,2,#[.string ⟨#[]⟩,.string ⟨#[]⟩]),(w.heap.size+1, 33,2,#[.string (zb n'),.string (zb d')]),(w.heap.size, 33,2,#[.string (zb n),.string (zb d)])]) wx)
 case first =>
  have q6:=q0.drew;have hz:=(q0.new #[.string ⟨#[]⟩] 31 _ 1 rfl rfl).row0.drew;have hX0:=q0.fresh;have m1:=q6.is (w.heap.size) 2 33 #[.string (zb n),.string (zb d)] (by simp) 0 (by decide) (.string (zb n)) rfl;have m2:=q6.is (w.heap.size) 2 33 #[.string (zb n),.string (zb d)] (by simp) 1 (by decide) (.string (zb d)) rfl;have m3:=q6.is (w.heap.size+1) 2 33 #[.string (zb n'),.string (zb d')] (by simp) 0 (by decide) (.string (zb n')) rfl;have m4:=q6.is (w.heap.size+1) 2 33 #[.string (zb n'),.string (zb d')] (by simp) 1 (by decide) (.string (zb d')) rfl;go_region_held3 (fun w'=>w'.cell? ⟨w.heap.size,0,none⟩=some (.string (zb n))∧w'.cell? ⟨w.heap.size,1,none⟩=some (.string (zb d))∧w'.cell? ⟨w.heap.size+1,0,none⟩=some (.string (zb n'))∧w'.cell? ⟨w.heap.size+1,1,none⟩=some (.string (zb d')))
   (first | exact ⟨m1,m2,m3,m4⟩ | exact ⟨(World.cell?_setCell_far _ _ _ _ N1.out).trans m1,(World.cell?_setCell_far _ _ _ _ N2.out).trans m2,(World.cell?_setCell_far _ _ _ _ N3.out).trans m3,(World.cell?_setCell_far _ _ _ _ N4.out).trans m4⟩ | exact ⟨(q0.alloc _).drew.is (w.heap.size) 2 33 #[.string (zb n),.string (zb d)] (by simp) 0 (by decide) (.string (zb n)) rfl,(q0.alloc _).drew.is (w.heap.size) 2 33 #[.string (zb n),.string (zb d)] (by simp) 1 (by decide) (.string (zb d)) rfl,(q0.alloc _).drew.is (w.heap.size+1) 2 33 #[.string (zb n'),.string (zb d')] (by simp) 0 (by decide) (.string (zb n')) rfl,(q0.alloc _).drew.is (w.heap.size+1) 2 33 #[.string (zb n'),.string (zb d')] (by simp) 1 (by decide) (.string (zb d')) rfl⟩ | exact ⟨(q6.alloc _).is (w.heap.size) 2 33 #[.string (zb n),.string (zb d)] (by simp) 0 (by decide) (.string (zb n)) rfl,(q6.alloc _).is (w.heap.size) 2 33 #[.string (zb n),.string (zb d)] (by simp) 1 (by decide) (.string (zb d)) rfl,(q6.alloc _).is (w.heap.size+1) 2 33 #[.string (zb n'),.string (zb d')] (by simp) 0 (by decide) (.string (zb n')) rfl,(q6.alloc _).is (w.heap.size+1) 2 33 #[.string (zb n'),.string (zb d')] (by simp) 1 (by decide) (.string (zb d')) rfl⟩ | go_keep)
   (first
     | (go_simp
        go_at_call 33;(with_reducible first | refine (HM1.out _).mono ?_ | refine (HM2.out _).mono ?_);rintro e w9 ⟨rfl,hb9⟩;first
         | (replace q6:=q6.below hb9
            try replace hz6:=zh hz6 hb9)
         | (have hz6:=zh hz hb9
            have HZ6:=zc HNW2;have hX6:=hX0;have N1:=zc (Ne.symm (hX6.2 (w.heap.size, 33,2,#[.string (zb n),.string (zb d)]) (by simp)));have N2:=zc (Ne.symm (hX6.2 (w.heap.size, 33,2,#[.string (zb n),.string (zb d)]) (by simp)));have N3:=zc (Ne.symm (hX6.2 (w.heap.size+1, 33,2,#[.string (zb n'),.string (zb d')]) (by simp)));have N4:=zc (Ne.symm (hX6.2 (w.heap.size+1, 33,2,#[.string (zb n'),.string (zb d')]) (by simp)));replace q6:=(q0.alloc _).drew.below hb9)
         | (have hX6:=q6.fresh
            have N1:=zc (Ne.symm (hX6.2 (w.heap.size, 33,2,#[.string (zb n),.string (zb d)]) (by simp)));have N2:=zc (Ne.symm (hX6.2 (w.heap.size, 33,2,#[.string (zb n),.string (zb d)]) (by simp)));have N3:=zc (Ne.symm (hX6.2 (w.heap.size+1, 33,2,#[.string (zb n'),.string (zb d')]) (by simp)));have N4:=zc (Ne.symm (hX6.2 (w.heap.size+1, 33,2,#[.string (zb n'),.string (zb d')]) (by simp)));have hz6:=zh (zI _ #[.string ⟨#[]⟩] 31 _ 1 rfl rfl) hb9;have HZ6:=zc (HNX _ q6.bl);replace q6:=(q6.alloc _).below hb9)
        have m1:=q6.is (w.heap.size) 2 33 #[.string (zb n),.string (zb d)] (by simp) 0 (by decide) (.string (zb n)) rfl;have m2:=q6.is (w.heap.size) 2 33 #[.string (zb n),.string (zb d)] (by simp) 1 (by decide) (.string (zb d)) rfl;have m3:=q6.is (w.heap.size+1) 2 33 #[.string (zb n'),.string (zb d')] (by simp) 0 (by decide) (.string (zb n')) rfl;have m4:=q6.is (w.heap.size+1) 2 33 #[.string (zb n'),.string (zb d')] (by simp) 1 (by decide) (.string (zb d')) rfl;try have y0:=hz6.frozen 0
        try have z0:=hz6.cell (i:=0) (by omega))
     | (go_simp
        go_at_call 73;(with_reducible first | refine (HDA.out _).mono ?_ | refine (HDB.out _).mono ?_);rintro e w9 ⟨rfl,hb9⟩;first
         | (replace q6:=q6.below hb9
            try replace hz6:=zh hz6 hb9)
         | (have hz6:=zh hz hb9
            have HZ6:=zc HNW2;have hX6:=hX0;have N1:=zc (Ne.symm (hX6.2 (w.heap.size, 33,2,#[.string (zb n),.string (zb d)]) (by simp)));have N2:=zc (Ne.symm (hX6.2 (w.heap.size, 33,2,#[.string (zb n),.string (zb d)]) (by simp)));have N3:=zc (Ne.symm (hX6.2 (w.heap.size+1, 33,2,#[.string (zb n'),.string (zb d')]) (by simp)));have N4:=zc (Ne.symm (hX6.2 (w.heap.size+1, 33,2,#[.string (zb n'),.string (zb d')]) (by simp)));replace q6:=(q0.alloc _).drew.below hb9)
         | (have hX6:=q6.fresh
            have N1:=zc (Ne.symm (hX6.2 (w.heap.size, 33,2,#[.string (zb n),.string (zb d)]) (by simp)));have N2:=zc (Ne.symm (hX6.2 (w.heap.size, 33,2,#[.string (zb n),.string (zb d)]) (by simp)));have N3:=zc (Ne.symm (hX6.2 (w.heap.size+1, 33,2,#[.string (zb n'),.string (zb d')]) (by simp)));have N4:=zc (Ne.symm (hX6.2 (w.heap.size+1, 33,2,#[.string (zb n'),.string (zb d')]) (by simp)));have hz6:=zh (zI _ #[.string ⟨#[]⟩] 31 _ 1 rfl rfl) hb9;have HZ6:=zc (HNX _ q6.bl);replace q6:=(q6.alloc _).below hb9)
        have m1:=q6.is (w.heap.size) 2 33 #[.string (zb n),.string (zb d)] (by simp) 0 (by decide) (.string (zb n)) rfl;have m2:=q6.is (w.heap.size) 2 33 #[.string (zb n),.string (zb d)] (by simp) 1 (by decide) (.string (zb d)) rfl;have m3:=q6.is (w.heap.size+1) 2 33 #[.string (zb n'),.string (zb d')] (by simp) 0 (by decide) (.string (zb n')) rfl;have m4:=q6.is (w.heap.size+1) 2 33 #[.string (zb n'),.string (zb d')] (by simp) 1 (by decide) (.string (zb d')) rfl;try have y0:=hz6.frozen 0
        try have z0:=hz6.cell (i:=0) (by omega))
     | (go_simp
        go_at_call 118;(with_reducible first | refine (HF.out _ q6.bl).mono ?_ | refine (HF.out _ (q0.alloc _).drew.bl).mono ?_ | refine (HF.out _ (q6.alloc _).bl).mono ?_);rintro e w9 ⟨rfl,hb9⟩;first
         | (replace q6:=(q6.both b v HNB).below' hb9
            try replace hz6:=ziT (hz6.setOther (a:=⟨b,0,none⟩) HZ6.out v) hb9)
         | (have hz6:=ziT (hz.setOther (a:=⟨b,0,none⟩) HNW2 v) hb9
            have hX6:=hX0;have N1:=zc (Ne.symm (hX6.2 (w.heap.size, 33,2,#[.string (zb n),.string (zb d)]) (by simp)));have N2:=zc (Ne.symm (hX6.2 (w.heap.size, 33,2,#[.string (zb n),.string (zb d)]) (by simp)));have N3:=zc (Ne.symm (hX6.2 (w.heap.size+1, 33,2,#[.string (zb n'),.string (zb d')]) (by simp)));have N4:=zc (Ne.symm (hX6.2 (w.heap.size+1, 33,2,#[.string (zb n'),.string (zb d')]) (by simp)));replace q6:=((q0.alloc _).drew.both b v HNB).below' hb9)
         | (have hX6:=q6.fresh
            have N1:=zc (Ne.symm (hX6.2 (w.heap.size, 33,2,#[.string (zb n),.string (zb d)]) (by simp)));have N2:=zc (Ne.symm (hX6.2 (w.heap.size, 33,2,#[.string (zb n),.string (zb d)]) (by simp)));have N3:=zc (Ne.symm (hX6.2 (w.heap.size+1, 33,2,#[.string (zb n'),.string (zb d')]) (by simp)));have N4:=zc (Ne.symm (hX6.2 (w.heap.size+1, 33,2,#[.string (zb n'),.string (zb d')]) (by simp)));have hz6:=ziT (((q6.new #[.string ⟨#[]⟩] 31 _ 1 rfl rfl).row0).setOther (a:=⟨b,0,none⟩) (HNX _ q6.bl) v) hb9;dsimp only at hz6;replace q6:=((q6.alloc _).both b v HNB).below' hb9)
        have m1:=q6.is (w.heap.size) 2 33 #[.string (zb n),.string (zb d)] (by simp) 0 (by decide) (.string (zb n)) rfl;have m2:=q6.is (w.heap.size) 2 33 #[.string (zb n),.string (zb d)] (by simp) 1 (by decide) (.string (zb d)) rfl;have m3:=q6.is (w.heap.size+1) 2 33 #[.string (zb n'),.string (zb d')] (by simp) 0 (by decide) (.string (zb n')) rfl;have m4:=q6.is (w.heap.size+1) 2 33 #[.string (zb n'),.string (zb d')] (by simp) 1 (by decide) (.string (zb d')) rfl;try have y0:=hz6.frozen 0
        try have z0:=hz6.cell (i:=0) (by omega)))
  all_goals
   try go_wp2
   go_meet
   case rel =>
    first
     | exact ⟨_,rfl,rfl,q6.new _ _ _ _ rfl rfl⟩
     | exact ⟨_,rfl,rfl,(q6.other hX6.1 hX6.2 _ _).cons (zjl hz6 _)⟩
 case rest =>
  obtain ⟨gx,rfl,rfl,q3⟩:=hcut;clear q0 HM1 HM2 HM3 HDA HDB HNW HF;have hr:wc.rowIs (w.heap.size+1+1) 33 2 (zC #[.string ⟨#[]⟩,.string ⟨#[]⟩]):=q3.rows (w.heap.size+1+1, 33,2,#[.string ⟨#[]⟩,.string ⟨#[]⟩]) (by simp);have y1:=hr.frozen 0;have y2:=hr.frozen 1;have z1:_=some (Value.string ⟨#[]⟩):=hr.cell (i:=0) (by omega);have z2:_=some (Value.string ⟨#[]⟩):=hr.cell (i:=1) (by omega);have hs:=(qx hr (.string (zb 0)) (.string (zb 0))).congr (ye 0 0);have hb:=(q3.base.setCell (p:=⟨w.heap.size+1+1,0,none⟩) (by simp;omega) (.string (zb 0))).setCell (p:=⟨w.heap.size+1+1,1,none⟩) (by simp;omega) (.string (zb 0));rw [oY] at hs hb;go_wp2_with fail
  exact ju rfl 0 0 rfl rfl hs rfl ⟨rfl,hb⟩
theorem qcmp_any (w:World) (n d n' d':Nat) (hn:n8 n≤100000) (hd:n8 d≤100000) (hn':n8 n'≤100000) (hd':n8 d'≤100000) :
  Calls Tryz.prog 68 #[zD n d,zD n' d'] w fun e w'=>e = .returned (.int .i64 (qg (n*qd d') (n'*qd d)))∧Below w.heap.size w w':=by
 have h1:=yx d hd;have h2:=yx d' hd';have b1:=yz n (qd d');have b2:=yz n' (qd d);have q0:=(((Bag.zero w).new #[.string (zb n),.string (zb d)] 33 w.heap.size 2 rfl rfl).new #[.string (zb n'),.string (zb d')] 33 (w.heap.size+1) 2 (by simp) rfl).new #[.int .i64 0] 3 (w.heap.size+1+1) 1 (by simp) rfl;have hj:=join_cmp (((w.alloc (.cells #[.string (zb n),.string (zb d)] 33)).alloc (.cells #[.string (zb n'),.string (zb d')] 33)).alloc (.cells #[.int .i64 0] 3)) n d n' d' (n*qd d') (w.heap.size+1+1) (.int .i64 (qg (n*qd d') (n'*qd d))) hn hd hn' hd' (by omega) (by simp)
  (fun W hb=>xF W _ _ _ (by omega) (by omega) _ (zh q0.row0 hb))
 generalize qg (n*qd d') (n'*qd d)=k at *
 have HJ:=zc hj;have m1:=q0.is w.heap.size 2 33 #[.string (zb n),.string (zb d)] (by simp) 0 (by decide) (.string (zb n)) rfl;clear hj h1 h2 b1 b2 hn hd hn' hd';go_enter Tryz.func68, Tryz.ntmps68;go_wp2_with fail
 refine HJ.out.mono ?_;rintro e w9 ⟨rfl,hb9⟩;have r9:=ziT (q0.row0.set 0 (.int .i64 k)) hb9;have z9:w9.cell? ⟨w.heap.size+1+1,0,none⟩=some (.int .i64 k):=r9.cell (i:=0) (Nat.zero_lt_one);have hbf:Below w.heap.size w w9:=(q0.bl.setCell (p:=⟨w.heap.size+1+1,0,none⟩) (by simp;omega) (.int .i64 k)).trans (hb9.mono (by simp;omega));clear q0 HJ m1 r9 hb9;go_wp2_with fail
 go_ret;exact ⟨rfl,hbf⟩
end Go.Proofs.YtmhllppjcilllaaGreatDoor
end
