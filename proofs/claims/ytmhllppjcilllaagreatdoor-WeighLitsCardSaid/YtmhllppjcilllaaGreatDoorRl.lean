import Derived.Test.YtmhllppjcilllaaGreatDoorGw
set_option linter.unusedSimpArgs false
set_option linter.unusedVariables false
set_option maxRecDepth 100000
set_option maxHeartbeats 4000000
open Go Go.RowKit Cs
namespace Cs
open Go.Proofs.YtmhllppjcilllaaGreatDoor
theorem one_rd {W:World} {X:Nat} {t:TypeId} {x:Int} (h:W.rowIs X t 1 (zy #[.int .i64 x])):Rd W W.heap.size (some ⟨X,0,none⟩) 1 (zO [x]):=fun _ =>
 ⟨X,0,rfl,h.lt,fun i hi=>by
   obtain rfl:i=0:=by omega
   exact (h.cell (i:=0) (by decide)).trans rfl⟩
end Cs
namespace Go.Proofs.YtmhllppjcilllaaGreatDoor
theorem jV {P:Program} {o:Oper} {a:Act} {w:World} {K:Act→World→Prop} {Q:Exit→Act→World→Prop} {s x:Operand} {t:TypeId} {v1 v2 v':Value} {w':World} {tm:Nat→Option Bool} {B:Prop} (ho:o.op = .call { callee:=.builtin .append,args:=#[s,x],argTypes:=#[t,t] }) (hg:o.guard=none)
  (hs:a.eval s=v1) (hx:a.eval x=v2) (hr:(Builtin.append_ #[t,t] o.type #[v1,v2]).run P w = .ok v' w') (hK:K (a.put o.dst v') w'):if Region.wanted o tm=true then Oper.wp P o a w K Q else B:=by
 have e:Region.wanted o tm=true:=by unfold Region.wanted;rw [hg]
 rw [if_pos e];unfold Oper.wp execOp;simp only [ho,resolve,invoke,builtin,Sem.run_bind,Sem.run_pure,Result.andThen_ok,List.map_toArray,List.map_cons,List.map_nil,hs,hx,hr];exact hK
structure BlS (w:World) (N:Nt) (A:Option Addr) (c n cl ch:Nat) (Al Ah:Option Addr) (k1 k2:Nat) (L H:List Pr) (s1 s2:Value) (W:World):Prop where
 fn:W.rowIs w.heap.size 24 2 (zy #[.int .i64 N.n,.slice A N.l.length c])
 fw:W.rowIs (w.heap.size+1) 47 2 (zy #[.slice Al (n+1) cl,.slice Ah (n+1) ch])
 o1:W.ownsRow (w.heap.size+1+1) 42 2 s1 k1 ((List.range (k1*2)).map (zL (L.map qp)))
 o2:W.ownsRow (w.heap.size+1+1) 42 2 s2 k2 ((List.range (k2*2)).map (zL (H.map qp)))
 dis:∀ b,s1.ownBlock=some b→s2.ownBlock≠some b
 bl:Below w.heap.size w W
section
variable {w W W':World} {N:Nt} {A Al Ah:Option Addr} {c n cl ch k1 k2:Nat} {L H L':List Pr} {s1 s2 v':Value}
theorem BlS.below (h:BlS w N A c n cl ch Al Ah k1 k2 L H s1 s2 W) (hb:Below W.heap.size W W'):BlS w N A c n cl ch Al Ah k1 k2 L H s1 s2 W' :=
 ⟨zo h.fn hb,zo h.fw hb,yB h.o1 hb,yB h.o2 hb,h.dis,zw h.bl hb h.bl.size⟩
theorem BlS.bs (h:BlS w N A c n cl ch Al Ah k1 k2 L H s1 s2 W):w.heap.size+1+1≤W.heap.size:=h.fw.lt
theorem BlS.cells (h:BlS w N A c n cl ch Al Ah k1 k2 L H s1 s2 W):W.cell? ⟨w.heap.size,0,none⟩=some (.int .i64 N.n)∧W.cell? ⟨w.heap.size,1,none⟩=some (.slice A N.l.length c)∧W.cell? ⟨w.heap.size+1,0,none⟩=some (.slice Al (n+1) cl)∧W.cell? ⟨w.heap.size+1,1,none⟩=some (.slice Ah (n+1) ch) :=
 ⟨h.fn.cell (i:=0) (by decide),h.fn.cell (i:=1) (by decide),h.fw.cell (i:=0) (by decide),h.fw.cell (i:=1) (by decide)⟩
theorem BlS.app1 (h:BlS w N A c n cl ch Al Ah k1 k2 L H s1 s2 W) {xs:List Value} (t1:W'.ownsRow (w.heap.size+1+1) 42 2 v' (k1+1) xs) (g:W.grownBy W' s1.ownBlock) (t4:v'.ownBlock=s1.ownBlock∨v'.ownBlock=some W.heap.size) (hx:((List.range ((k1+1)*2)).map (zL (L'.map qp)))=xs) :
  BlS w N A c n cl ch Al Ah (k1+1) k2 L' H v' s2 W':=by
 have hb:=h.bs;have hne:∀ b,b<w.heap.size+1+1→some b≠s1.ownBlock:=fun b hb e=>by have:=(h.o1.lt b e.symm).1;omega
 refine ⟨h.fn.of_block (g.block _ h.fn.lt (hne _ (by omega))),h.fw.of_block (g.block _ h.fw.lt (hne _ (by omega))),by rw [hx];exact t1,h.o2.kept g ?_,fun b hb1 hb2=>?_,h.bl.trans ⟨g.os,g.tape,g.output,g.size,fun k hk=>g.block k (Nat.lt_of_lt_of_le hk h.bl.size) (hne k (by omega))⟩⟩
 ·cases hv:s2.ownBlock with
  | none=>exact Or.inl rfl
  | some b=>exact Or.inr fun he=>h.dis b he.symm hv
 ·rcases t4 with t4 | t4
  ·exact h.dis b (t4.symm.trans hb1) hb2
  ·rw [t4] at hb1;injection hb1 with hb1;have:=(h.o2.lt b hb2).2;omega
theorem BlS.app2 (h:BlS w N A c n cl ch Al Ah k1 k2 L H s1 s2 W) {xs:List Value} (t1:W'.ownsRow (w.heap.size+1+1) 42 2 v' (k2+1) xs) (g:W.grownBy W' s2.ownBlock) (t4:v'.ownBlock=s2.ownBlock∨v'.ownBlock=some W.heap.size) (hx:((List.range ((k2+1)*2)).map (zL (L'.map qp)))=xs) :
  BlS w N A c n cl ch Al Ah k1 (k2+1) L L' s1 v' W':=by
 have hb:=h.bs;have hne:∀ b,b<w.heap.size+1+1→some b≠s2.ownBlock:=fun b hb e=>by have:=(h.o2.lt b e.symm).1;omega
 refine ⟨h.fn.of_block (g.block _ h.fn.lt (hne _ (by omega))),h.fw.of_block (g.block _ h.fw.lt (hne _ (by omega))),h.o1.kept g ?_,by rw [hx];exact t1,fun b hb1 hb2=>?_,h.bl.trans ⟨g.os,g.tape,g.output,g.size,fun k hk=>g.block k (Nat.lt_of_lt_of_le hk h.bl.size) (hne k (by omega))⟩⟩
 ·cases hv:s1.ownBlock with
  | none=>exact Or.inl rfl
  | some b=>exact Or.inr fun he=>h.dis b hv he.symm
 ·rcases t4 with t4 | t4
  ·exact h.dis b hb1 (t4.symm.trans hb2)
  ·rw [t4] at hb2;injection hb2 with hb2;have:=(h.o1.lt b hb1).2;omega
end
theorem zfE (w:World) (N:Nt) (A:Option Addr) (c cl ch ll lh:Nat) (Al Ah:Option Addr) (E:Int) (h0:E≠0) (hck:RkE w N A c cl ch ll lh Al Ah E) :
  Calls Tryz.prog 22 #[qg N A c,.agg #[.slice Al ll cl,.slice Ah lh ch]] w fun e w'=>e = .returned (.tuple #[.slice none 0 0,.slice none 0 0,.int .i64 E])∧Below w.heap.size w w':=by
 have q0:=((Kp.nil w).new #[.int .i64 N.n,.slice A N.l.length c] 24 w.heap.size 2 rfl rfl).new #[.slice Al ll cl,.slice Ah lh ch] 47 (w.heap.size+1) 2 (by simp) rfl;have s1:World.cell? _ ⟨w.heap.size,0,none⟩=some (.int .i64 N.n):=(q0.row 1 rfl).cell (i:=0) (by decide);have s2:World.cell? _ ⟨w.heap.size,1,none⟩=some (.slice A N.l.length c):=(q0.row 1 rfl).cell (i:=1) (by decide);have s3:World.cell? _ ⟨w.heap.size+1,0,none⟩=some (.slice Al ll cl):=(q0.row 0 rfl).cell (i:=0) (by decide);have s4:World.cell? _ ⟨w.heap.size+1,1,none⟩=some (.slice Ah lh ch):=(q0.row 0 rfl).cell (i:=1) (by decide);have hb0:(E==0)=false:=beq_eq_false_iff_ne.2 h0;have hb1:(E != 0)=true:=by simp [bne,hb0]
 have HCK:=zb hck;have Q0:=zb q0;clear hck q0;go_enter Tryz.func22, Tryz.ntmps22;go_wp2_with (go_at_call 38;(with_reducible refine (HCK.out _ Q0.out.bl).mono ?_);rintro e w5 ⟨rfl,hb5⟩;have Q1:=zb (Q0.out.below hb5);clear s1 s2 s3 s4)
 go_ret3;exact ⟨rfl,Q1.out.bl⟩
def rlP (N:Nt) (n:Nat) (lo hi:List Pr) (u:Nat):Pr:=if u=0 then (0,0) else yI N n lo hi [-(u:Int)]
def rhP (N:Nt) (n:Nat) (lo hi:List Pr) (u:Nat):Pr:=if u=0 then (0,0) else yI N n lo hi [(u:Int)]
theorem zkg (w:World) (N:Nt) (A:Option Addr) (c n cl ch:Nat) (lo hi:List Pr) (Al Ah:Option Addr) (hN:NtAt w w.heap.size A N.l) (hv:zG N=true) (hn:N.n=(n:Int)) (hd:qt N=true) (hs:qJ N=true) (hW:WtIn n lo hi) (hb:¬ 16384<zK lo n+zK hi n)
  (hl:∀ k,(lo.getD k (0,0)).1≤6∧(lo.getD k (0,0)).2≤6) (hh:∀ k,(hi.getD k (0,0)).1≤6∧(hi.getD k (0,0)).2≤6) (hlo:Rd w w.heap.size Al ((n+1)*2) (zL (lo.map qp))) (hhi:Rd w w.heap.size Ah ((n+1)*2) (zL (hi.map qp))) (hck:RkE w N A c cl ch (n+1) (n+1) Al Ah 0) :
  Calls Tryz.prog 22 #[qg N A c,.agg #[.slice Al (n+1) cl,.slice Ah (n+1) ch]] w fun e w'=>∃ A1 c1 A2 c2,e = .returned (.tuple #[.slice A1 (n+1) c1,.slice A2 (n+1) c2,.int .i64 0])∧Rd w' w'.heap.size A1 ((n+1)*2) (zL (((List.range (n+1)).map (rlP N n lo hi)).map qp))∧Rd w' w'.heap.size A2 ((n+1)*2) (zL (((List.range (n+1)).map (rhP N n lo hi)).map qp))∧Below w.heap.size w w':=by
 have hn128:=zhT hv hn;have hlp:∀ v:Nat,1≤v→rlP N n lo hi v=yI N n lo hi [-(v:Int)]:=fun v h=>by unfold rlP;rw [if_neg (by omega)]
 have hhp:∀ v:Nat,1≤v→rhP N n lo hi v=yI N n lo hi [(v:Int)]:=fun v h=>by unfold rhP;rw [if_neg (by omega)]
 have hk1:∀ v:Nat,1≤v→v≤n→_∧_:=fun v h1 h2=>zif w N A c n cl ch 1 lo hi [-(v:Int)] Al Ah none hN hv hn hd hs hW hb hl hh (fun l hl=>by
  obtain rfl:l = -(v:Int):=by simpa using hl
  right;omega) (by simp)
 have hk2:∀ v:Nat,1≤v→v≤n→_∧_:=fun v h1 h2=>zif w N A c n cl ch 1 lo hi [(v:Int)] Al Ah none hN hv hn hd hs hW hb hl hh (fun l hl=>by
  obtain rfl:l=(v:Int):=by simpa using hl
  left;omega) (by simp)
 have hg1:∀ v:Nat,1≤v→v≤n→∀ W At ct,Below w.heap.size w W→Rd W W.heap.size At 1 (zO [-(v:Int)])→Calls Tryz.prog 61 #[.agg #[.slice Al (n+1) cl,.slice Ah (n+1) ch],.slice At 1 ct] W fun e w'=>∃ x,e = .returned x∧yG n (z6 n lo [-(v:Int)]) (z8 n hi [-(v:Int)]) x w'∧Below W.heap.size W w' :=
  fun v h1 h2 W At ct hWb ht=>(hk1 v h1 h2).1 W At ct hWb ht ((hlo.below hWb).more hWb.size) ((hhi.below hWb).more hWb.size)
 have hg2:∀ v:Nat,1≤v→v≤n→∀ W At ct,Below w.heap.size w W→Rd W W.heap.size At 1 (zO [(v:Int)])→Calls Tryz.prog 61 #[.agg #[.slice Al (n+1) cl,.slice Ah (n+1) ch],.slice At 1 ct] W fun e w'=>∃ x,e = .returned x∧yG n (z6 n lo [(v:Int)]) (z8 n hi [(v:Int)]) x w'∧Below W.heap.size W w' :=
  fun v h1 h2 W At ct hWb ht=>(hk2 v h1 h2).1 W At ct hWb ht ((hlo.below hWb).more hWb.size) ((hhi.below hWb).more hWb.size)
 have hm1:∀ v:Nat,1≤v→v≤n→_:=fun v h1 h2=>(hk1 v h1 h2).2;have hm2:∀ v:Nat,1≤v→v≤n→_:=fun v h1 h2=>(hk2 v h1 h2).2;obtain ⟨f1,hf1⟩:∃ f,rlP N n lo hi=f:=⟨_,rfl⟩;obtain ⟨f2,hf2⟩:∃ f,rhP N n lo hi=f:=⟨_,rfl⟩;have z1:f1 0=(0,0):=by rw [← hf1];rfl
 have z2:f2 0=(0,0):=by rw [← hf2];rfl
 rw [hf1] at hlp ⊢;rw [hf2] at hhp ⊢;have q0:=((Kp.nil w).new #[.int .i64 N.n,.slice A N.l.length c] 24 w.heap.size 2 rfl rfl).new #[.slice Al (n+1) cl,.slice Ah (n+1) ch] 47 (w.heap.size+1) 2 (by simp) rfl;have s1:World.cell? _ ⟨w.heap.size,0,none⟩=some (.int .i64 N.n):=(q0.row 1 rfl).cell (i:=0) (by decide);have s2:World.cell? _ ⟨w.heap.size,1,none⟩=some (.slice A N.l.length c):=(q0.row 1 rfl).cell (i:=1) (by decide);have s3:World.cell? _ ⟨w.heap.size+1,0,none⟩=some (.slice Al (n+1) cl):=(q0.row 0 rfl).cell (i:=0) (by decide);have s4:World.cell? _ ⟨w.heap.size+1,1,none⟩=some (.slice Ah (n+1) ch):=(q0.row 0 rfl).cell (i:=1) (by decide);have HCK:=zb hck;have HLP:=zb hlp;have HHP:=zb hhp;have HGA:=zb hg1;have HGB:=zb hg2;have HMA:=zb hm1;have HMB:=zb hm2;have Z1:=zb z1;have Z2:=zb z2;have HNN:=zb hn;have HN1:=zb hn128;have Q0:=zb q0;clear hck hlp hhp hg1 hg2 hm1 hm2 hk1 hk2 hf1 hf2 z1 z2 q0 hN hv hn hd hs hW hb hl hh hlo hhi hn128;go_enter Tryz.func22, Tryz.ntmps22;go_wp2_with (first
  | (go_at_call 38;(with_reducible refine (HCK.out _ Q0.out.bl).mono ?_);rintro e w5 ⟨rfl,hb5⟩;have Q1:=zb (Q0.out.below hb5);clear s1 s2 s3 s4)
  | (go_at_call 37;(with_reducible refine (jt _).mono ?_);rintro e w6 ⟨rfl,hb6⟩;have Q2:=zb (Q1.out.below hb6);clear Q1)
  | (go_at_call 37;(with_reducible refine (jt _).mono ?_);rintro e w7 ⟨rfl,hb7⟩))
 have hqz:∀ (f:Nat→Pr),f 0=(0,0)→((List.range (1*2)).map (zL (((List.range 1).map f).map qp)))=[.string (zc 0),.string (zc 1)]:=fun f h=>by
  have h1:=zdr f 0;rw [h,show qp (0,0)=0 from qp_zero,show qn (0:Rat)=0 by decide,show (0:Rat).den=1 from rfl] at h1;exact h1
 have hst:BlS w N A c n cl ch Al Ah 1 1 ((List.range 1).map f1) ((List.range 1).map f2) (.slice (some ⟨w6.heap.size,0,none⟩) 1 1) (.slice (some ⟨w7.heap.size,0,none⟩) 1 1) (w7.alloc (.cells #[.string (zc 0),.string (zc 1)] 42)):=by
  have hbs:=(Q2.out.row 0 rfl).lt;have o1:=World.ownsRow_lit (e:=42) (size:=2) w6 #[.string (zc 0),.string (zc 1)] 1 (show w.heap.size+1+1≤w6.heap.size from hbs) (by decide) rfl;have hs7:w6.heap.size+1≤w7.heap.size:=by simpa using hb7.size
  have o2:=World.ownsRow_lit (e:=42) (size:=2) w7 #[.string (zc 0),.string (zc 1)] 1 (show w.heap.size+1+1≤w7.heap.size by omega) (by decide) rfl;have Q3:=((Q2.out.alloc (.cells #[.string (zc 0),.string (zc 1)] 42)).below hb7).alloc (.cells #[.string (zc 0),.string (zc 1)] 42);refine ⟨Q3.row 1 rfl,Q3.row 0 rfl,by rw [hqz f1 Z1.out];exact yB (yB o1 hb7) ((zx _ _).alloc (zu _) _),by rw [hqz f2 Z2.out];exact o2,fun b hb hb2=>?_,Q3.bl⟩;simp [Value.ownBlock] at hb hb2;omega
 have HST:=zb hst;clear hst hqz Q2 Q0;go_loopw [8,9,10] (fun p q t wr=>∃ (k:Nat) (s1 s2:Value),1≤k∧k≤n+1∧s1=p∧s2=q∧t = .int .i64 (k:Int)∧BlS w N A c n cl ch Al Ah k k ((List.range k).map f1) ((List.range k).map f2) s1 s2 wr) (fun _ _ t _=>n+1-(intOf t).toNat)
 case atStart=>exact ⟨1,_,_,zu _,Nat.succ_le_succ (Nat.zero_le _),rfl,rfl,rfl,HST.out⟩
 case round =>
  clear HST;obtain ⟨k,sa,sb,hk1,hk2,rfl,rfl,rfl,hq⟩:=hrel;obtain ⟨s1,s2,s3,s4⟩:=hq.cells;by_cases hlt:k<n+1
  ·have hc0:decide ((k:Int)≤N.n)=true:=decide_eq_true (by have:=HNN.out;omega);have hkn:k≤n:=by omega
   have hk1000:k≤1000:=by have:=HN1.out;omega
   have e9:IntKind.i64.wrap ((k:Int)+1)=(k:Int)+1:=by rw [IntKind.wrap_i64];omega
   have e8:IntKind.i64.wrap (-(k:Int)) = -(k:Int):=by rw [IntKind.wrap_i64];omega
   have hga:=HGA.out k hk1 hkn;have hgb:=HGB.out k hk1 hkn;have hma:=HMA.out k hk1 hkn;have hmb:=HMB.out k hk1 hkn;have hx1:=zdr f1 k;have hx2:=zdr f2 k;rw [HLP.out k hk1] at hx1;rw [HHP.out k hk1] at hx2;obtain ⟨x1,hx1'⟩:∃ x,qp (yI N n lo hi [-(k:Int)])=x:=⟨_,rfl⟩;obtain ⟨x2,hx2'⟩:∃ x,qp (yI N n lo hi [(k:Int)])=x:=⟨_,rfl⟩;rw [hx1'] at hx1;rw [hx2'] at hx2;simp only [hx1'] at hma;simp only [hx2'] at hmb;unfold zS at hma hmb;obtain ⟨PG1,hp1⟩:∃ P:Value→World→Prop,(fun x w=>yG n (z6 n lo [-(k:Int)]) (z8 n hi [-(k:Int)]) x w)=P:=⟨_,rfl⟩;obtain ⟨PG2,hp2⟩:∃ P:Value→World→Prop,(fun x w=>yG n (z6 n lo [(k:Int)]) (z8 n hi [(k:Int)]) x w)=P:=⟨_,rfl⟩;have hg1:∀ W At ct,Below w.heap.size w W→Rd W W.heap.size At 1 (zO [-(k:Int)])→Calls Tryz.prog 61 #[.agg #[.slice Al (n+1) cl,.slice Ah (n+1) ch],.slice At 1 ct] W fun e w'=>∃ x,e = .returned x∧PG1 x w'∧Below W.heap.size W w':=by rw [← hp1];exact hga
   have hg2:∀ W At ct,Below w.heap.size w W→Rd W W.heap.size At 1 (zO [(k:Int)])→Calls Tryz.prog 61 #[.agg #[.slice Al (n+1) cl,.slice Ah (n+1) ch],.slice At 1 ct] W fun e w'=>∃ x,e = .returned x∧PG2 x w'∧Below W.heap.size W w':=by rw [← hp2];exact hgb
   have hm1:∀ W x,Below w.heap.size w W→PG1 x W→Calls Tryz.prog 56 #[qg N A c,x] W fun e w'=>e = .returned (.agg #[.string (zc (qn x1)),.string (zc x1.den)])∧Below W.heap.size W w':=by rw [← hp1];exact hma
   have hm2:∀ W x,Below w.heap.size w W→PG2 x W→Calls Tryz.prog 56 #[qg N A c,x] W fun e w'=>e = .returned (.agg #[.string (zc (qn x2)),.string (zc x2.den)])∧Below W.heap.size W w':=by rw [← hp2];exact hmb
   have HPG1:=zb (show ∀ x W W',PG1 x W→Below W.heap.size W W'→PG1 x W' by rw [← hp1];exact zbW);have HPG2:=zb (show ∀ x W W',PG2 x W→Below W.heap.size W W'→PG2 x W' by rw [← hp2];exact zbW);have HG1:=zb hg1;have HG2:=zb hg2;have HM1:=zb hm1;have HM2:=zb hm2;have HX1:=zb hx1;have HX2:=zb hx2;have HK1:=zb hk1000;have HLT:=zb hlt;have QV:=zb hq;have BL:=zb hq.bl;have g0:=hq.fn.lt;have g1:=hq.fw.lt;clear hga hgb hma hmb hx1 hx2 hx1' hx2' hp1 hp2 hg1 hg2 hm1 hm2 hq hkn hk1000 hlt hk1 hk2;obtain ⟨V,rfl⟩:∃ V,V=wr:=⟨wr,rfl⟩;go_upto_region 9 with (fail)
   have HS:Hid (∀ W,Below V.heap.size V W→W.cell? ⟨w.heap.size,0,none⟩=some (.int .i64 N.n)∧W.cell? ⟨w.heap.size,1,none⟩=some (.slice A N.l.length c)∧W.cell? ⟨w.heap.size+1,0,none⟩=some (.slice Al (n+1) cl)∧W.cell? ⟨w.heap.size+1,1,none⟩=some (.slice Ah (n+1) ch)):=zb fun W hb=>⟨zC hb s1 g0,zC hb s2 g0,zC hb s3 g1,zC hb s4 g1⟩;refine yx (n:=_) (PX:=[zl sa,
      zl (.agg #[.int .i64 N.n,.slice A N.l.length c]),
      zl (.agg #[.slice Al (n+1) cl,.slice Ah (n+1) ch]),
      zl (.int .i64 (k:Int)),
      zl (.int .i64 (-(k:Int))),
      fun xl xv xw=>∃ X,xv = .slice (some ⟨X,0,none⟩) 1 1∧V.heap.size≤X∧World.rowIs xw X 3 1 (zy #[.int .i64 (-(k:Int))]),
      fun xl xv xw=>∃ x,xv=x∧PG1 x xw,
      zl (.agg #[.string (zc (qn x1)),.string (zc x1.den)]),
      fun xl xv xw=>∃ X,xv = .slice (some ⟨X,0,none⟩) 1 1∧V.heap.size≤X∧World.rowIs xw X 42 2 (zy #[.string (zc (qn x1)),.string (zc x1.den)])])
     (AL:=[5,8]) (DP:=[[],[],[],[],[3],[4],[2,5],[1,6],[7]]) (L1:=[0,1,2,3,4,5,6,7,8]) (ex:=[]) (by kernel_rfl) rfl (by kernel_rfl) ?_ ?_ (yH ?_)
   ·repeat' first|exact zW|refine zk ?_ ?_|exact fun _ _ _ _ h _=>h|fail
    ·exact fun l v w w2 h hb=>by obtain ⟨X,h1,h2,h3⟩:=h;exact ⟨X,h1,h2,zo h3 hb⟩
    ·exact fun l v w w2 h hb=>by obtain ⟨x,h1,h2⟩:=h;exact ⟨x,h1,HPG1.out _ _ _ h2 hb⟩
    ·exact fun l v w w2 h hb=>by obtain ⟨X,h1,h2,h3⟩:=h;exact ⟨X,h1,h2,zo h3 hb⟩
   ·refine zk (zv rfl [] ?_) (zk (zv rfl [] ?_) (zk (zv rfl [] ?_) (zk (zv rfl [] ?_) (zk (zv rfl [(3,some 30)] ?_) (zk ?_ (zk ?_ (zk ?_ (zk ?_ zW))))))));all_goals try (intro vs W hW hd K hK;(try simp only [qa,zl,and_true,List.getD_cons_succ,List.getD_cons_zero] at hd);(first | simp only [hd,zm,Act.put,zj,zi,zh,zg,zf,ze] at hK ⊢ | simp only [zm,Act.put,zj,zi,zh,zg,zf,ze] at hK ⊢ | skip);obtain ⟨m1,m2,m3,m4⟩:=HS.out W hW;go_simp;exact hK.out _ _ rfl (zx _ _) (qU rfl))
    ·refine zJ rfl [(4,some 31)] ?_;intro vs W hW hd K hK;have d4:vs 4 = .int .i64 (-(k:Int)):=hd 4 (by decide);clear hd;try simp only [d4,zm,Act.put,zj,zi,zh,zg,zf,ze] at hK ⊢
     go_simp;exact hK.out _ _ ⟨W.heap.size,rfl,hW.size,zF _ _ _ _ _ rfl rfl⟩ ((zx _ _).alloc (zu _) _) (fun _ b hb=>by simp [z7] at hb;subst hb;exact ⟨zu _,by simp⟩)
    ·refine zJ rfl [(2,some 29),(5,some 32)] ?_;intro vs W hW hd K hK;have d2:vs 2 = .agg #[.slice Al (n+1) cl,.slice Ah (n+1) ch]:=hd 2 (by decide);obtain ⟨X32,d5,b32,r32⟩:∃ X,vs 5 = .slice (some ⟨X,0,none⟩) 1 1∧V.heap.size≤X∧World.rowIs W X 3 1 (zy #[.int .i64 (-(k:Int))]):=hd 5 (by decide);clear hd;try simp only [d2,d5,zm,Act.put,zj,zi,zh,zg,zf,ze] at hK ⊢
     go_simp;go_at_call 61;(with_reducible first | refine (HG1.out _ (some ⟨X32,0,none⟩) 1 (zw BL.out hW BL.out.size) (one_rd r32)).mono ?_);rintro e w9 ⟨v9,rfl,hq9,hb9⟩;exact hK.out _ _ (⟨_,rfl,hq9⟩) hb9 (fun h=>absurd h (by decide))
    ·refine zJ rfl [(1,some 28),(6,some 33)] ?_;intro vs W hW hd K hK;have d1:vs 1 = .agg #[.int .i64 N.n,.slice A N.l.length c]:=hd 1 (by decide);obtain ⟨vg,d6,hq8⟩:∃ x,vs 6=x∧PG1 x W:=hd 6 (by decide);clear hd;try simp only [d1,d6,zm,Act.put,zj,zi,zh,zg,zf,ze] at hK ⊢
     go_simp;go_at_call 56;(with_reducible first | refine (HM1.out _ _ (zw BL.out hW BL.out.size) hq8).mono ?_);rintro e w9 ⟨rfl,hb9⟩;exact hK.out _ _ (rfl) hb9 (fun h=>absurd h (by decide))
    ·refine zJ rfl [(7,some 34)] ?_;intro vs W hW hd K hK;have d7:vs 7 = .agg #[.string (zc (qn x1)),.string (zc x1.den)]:=hd 7 (by decide);clear hd;try simp only [d7,zm,Act.put,zj,zi,zh,zg,zf,ze] at hK ⊢
     go_simp;exact hK.out _ _ ⟨W.heap.size,rfl,hW.size,zF _ _ _ _ _ rfl rfl⟩ ((zx _ _).alloc (zu _) _) (fun _ b hb=>by simp [z7] at hb;subst hb;exact ⟨zu _,by simp⟩)
   refine qQ [(0,some 27),(1,some 28),(2,some 29),(3,some 30),(4,some 31),(5,some 32),(6,some 33),(7,some 34),(8,some 35)] #[true,true,true,true,true,true,true,true,true,false,false] 2 ?_;intro vs Wf hW hd hbk hdis kf;simp only [qa,zl,and_true,List.getD_cons_succ,List.getD_cons_zero] at hd;obtain ⟨d0,d1,d2,d3,d4,⟨X32,d5,b32,r32⟩,⟨vg,d6,hq8⟩,d7,⟨X35,d8,b35,r35⟩⟩:=hd;have n32_35:X32≠X35:=fun h=>hdis 5 (by decide) 8 (by decide) (by decide) rfl rfl X32 (by rw [d5];rfl) (by rw [d8,h];rfl);have n35_32:=Ne.symm n32_35;clear hbk hdis;try simp only [d0,d1,d2,d3,d4,d5,d6,d7,d8,zm,Act.put,zj,zi,zh,zg,zf,ze]
   clear d0 d1 d2 d3 d4 d5 d6 d7 d8 vs;clear HS;have qf:=QV.out.below hW;have hbs:=qf.bs;obtain ⟨v',W',hrun,t1,t2,t3,t4⟩:=zjI Wf (w.heap.size+1+1) sa k _ qf.o1 hbs X35 (qn x1,x1.den) r35 HK1.out;refine zE 9 (by kernel_rfl) rfl (fun K hK=>?_);try simp only [zm,Act.put,zj,zi,zh,zg,zf,ze] at hK ⊢
   refine jV rfl rfl rfl rfl hrun ?_;refine hK.out _ _ ?_;clear hK K hrun;try simp only [zm,Act.put,zj,zi,zh,zg,zf,ze]
   refine zE 10 (by kernel_rfl) rfl (fun K hK=>?_);go_simp;refine hK.out _ _ ?_;clear hK K;try simp only [zm,Act.put,zj,zi,zh,zg,zf,ze]
   refine qc (by kernel_rfl) ?_ _;all_goals
    clear s1 s2 s3 s4;have hq2:=qf.app1 t1 t3 t4 HX1.out;clear qf hbs t1 t2 t3 t4 QV BL g0 g1 HG1 HM1 HPG1;obtain ⟨s1,s2,s3,s4⟩:=hq2.cells;have QV:=zb hq2;have BL:=zb hq2.bl;have g0:=hq2.fn.lt;have g1:=hq2.fw.lt;clear hq2;obtain ⟨V,rfl⟩:∃ V,V=W':=⟨W',rfl⟩;go_upto_region 10 with (fail)
    have HS:Hid (∀ W,Below V.heap.size V W→W.cell? ⟨w.heap.size,0,none⟩=some (.int .i64 N.n)∧W.cell? ⟨w.heap.size,1,none⟩=some (.slice A N.l.length c)∧W.cell? ⟨w.heap.size+1,0,none⟩=some (.slice Al (n+1) cl)∧W.cell? ⟨w.heap.size+1,1,none⟩=some (.slice Ah (n+1) ch)):=zb fun W hb=>⟨zC hb s1 g0,zC hb s2 g0,zC hb s3 g1,zC hb s4 g1⟩;refine yx (n:=_) (PX:=[zl sb,
       zl (.agg #[.int .i64 N.n,.slice A N.l.length c]),
       zl (.agg #[.slice Al (n+1) cl,.slice Ah (n+1) ch]),
       zl (.int .i64 (k:Int)),
       fun xl xv xw=>∃ X,xv = .slice (some ⟨X,0,none⟩) 1 1∧V.heap.size≤X∧World.rowIs xw X 3 1 (zy #[.int .i64 (k:Int)]),
       fun xl xv xw=>∃ x,xv=x∧PG2 x xw,
       zl (.agg #[.string (zc (qn x2)),.string (zc x2.den)]),
       fun xl xv xw=>∃ X,xv = .slice (some ⟨X,0,none⟩) 1 1∧V.heap.size≤X∧World.rowIs xw X 42 2 (zy #[.string (zc (qn x2)),.string (zc x2.den)])])
      (AL:=[4,7]) (DP:=[[],[],[],[],[3],[2,4],[1,5],[6]]) (L1:=[0,1,2,3,4,5,6,7]) (ex:=[]) (by kernel_rfl) rfl (by kernel_rfl) ?_ ?_ (yH ?_)
    ·repeat' first|exact zW|refine zk ?_ ?_|exact fun _ _ _ _ h _=>h|fail
     ·exact fun l v w w2 h hb=>by obtain ⟨X,h1,h2,h3⟩:=h;exact ⟨X,h1,h2,zo h3 hb⟩
     ·exact fun l v w w2 h hb=>by obtain ⟨x,h1,h2⟩:=h;exact ⟨x,h1,HPG2.out _ _ _ h2 hb⟩
     ·exact fun l v w w2 h hb=>by obtain ⟨X,h1,h2,h3⟩:=h;exact ⟨X,h1,h2,zo h3 hb⟩
    ·refine zk (zv rfl [] ?_) (zk (zv rfl [] ?_) (zk (zv rfl [] ?_) (zk (zv rfl [] ?_) (zk ?_ (zk ?_ (zk ?_ (zk ?_ zW)))))));all_goals try (intro vs W hW hd K hK;(try simp only [qa,zl,and_true,List.getD_cons_succ,List.getD_cons_zero] at hd);(first | simp only [hd,zm,Act.put,zj,zi,zh,zg,zf,ze] at hK ⊢ | simp only [zm,Act.put,zj,zi,zh,zg,zf,ze] at hK ⊢ | skip);obtain ⟨m1,m2,m3,m4⟩:=HS.out W hW;go_simp;exact hK.out _ _ rfl (zx _ _) (qU rfl))
     ·refine zJ rfl [(3,some 40)] ?_;intro vs W hW hd K hK;have d3:vs 3 = .int .i64 (k:Int):=hd 3 (by decide);clear hd;try simp only [d3,zm,Act.put,zj,zi,zh,zg,zf,ze] at hK ⊢
      go_simp;exact hK.out _ _ ⟨W.heap.size,rfl,hW.size,zF _ _ _ _ _ rfl rfl⟩ ((zx _ _).alloc (zu _) _) (fun _ b hb=>by simp [z7] at hb;subst hb;exact ⟨zu _,by simp⟩)
     ·refine zJ rfl [(2,some 39),(4,some 41)] ?_;intro vs W hW hd K hK;have d2:vs 2 = .agg #[.slice Al (n+1) cl,.slice Ah (n+1) ch]:=hd 2 (by decide);obtain ⟨X41,d4,b41,r41⟩:∃ X,vs 4 = .slice (some ⟨X,0,none⟩) 1 1∧V.heap.size≤X∧World.rowIs W X 3 1 (zy #[.int .i64 (k:Int)]):=hd 4 (by decide);clear hd;try simp only [d2,d4,zm,Act.put,zj,zi,zh,zg,zf,ze] at hK ⊢
      go_simp;go_at_call 61;(with_reducible first | refine (HG2.out _ (some ⟨X41,0,none⟩) 1 (zw BL.out hW BL.out.size) (one_rd r41)).mono ?_);rintro e w9 ⟨v9,rfl,hq9,hb9⟩;exact hK.out _ _ (⟨_,rfl,hq9⟩) hb9 (fun h=>absurd h (by decide))
     ·refine zJ rfl [(1,some 38),(5,some 42)] ?_;intro vs W hW hd K hK;have d1:vs 1 = .agg #[.int .i64 N.n,.slice A N.l.length c]:=hd 1 (by decide);obtain ⟨vg,d5,hq8⟩:∃ x,vs 5=x∧PG2 x W:=hd 5 (by decide);clear hd;try simp only [d1,d5,zm,Act.put,zj,zi,zh,zg,zf,ze] at hK ⊢
      go_simp;go_at_call 56;(with_reducible first | refine (HM2.out _ _ (zw BL.out hW BL.out.size) hq8).mono ?_);rintro e w9 ⟨rfl,hb9⟩;exact hK.out _ _ (rfl) hb9 (fun h=>absurd h (by decide))
     ·refine zJ rfl [(6,some 43)] ?_;intro vs W hW hd K hK;have d6:vs 6 = .agg #[.string (zc (qn x2)),.string (zc x2.den)]:=hd 6 (by decide);clear hd;try simp only [d6,zm,Act.put,zj,zi,zh,zg,zf,ze] at hK ⊢
      go_simp;exact hK.out _ _ ⟨W.heap.size,rfl,hW.size,zF _ _ _ _ _ rfl rfl⟩ ((zx _ _).alloc (zu _) _) (fun _ b hb=>by simp [z7] at hb;subst hb;exact ⟨zu _,by simp⟩)
    refine qQ [(0,some 37),(1,some 38),(2,some 39),(3,some 40),(4,some 41),(5,some 42),(6,some 43),(7,some 44)] #[true,true,true,true,true,true,true,true,false,false] 2 ?_;intro vs Wf hW hd hbk hdis kf;simp only [qa,zl,and_true,List.getD_cons_succ,List.getD_cons_zero] at hd;obtain ⟨d0,d1,d2,d3,⟨X41,d4,b41,r41⟩,⟨vg,d5,hq8⟩,d6,⟨X44,d7,b44,r44⟩⟩:=hd;have n41_44:X41≠X44:=fun h=>hdis 4 (by decide) 7 (by decide) (by decide) rfl rfl X41 (by rw [d4];rfl) (by rw [d7,h];rfl);have n44_41:=Ne.symm n41_44;clear hbk hdis;try simp only [d0,d1,d2,d3,d4,d5,d6,d7,zm,Act.put,zj,zi,zh,zg,zf,ze]
    clear d0 d1 d2 d3 d4 d5 d6 d7 vs;clear HS;have qf:=QV.out.below hW;have hbs:=qf.bs;obtain ⟨v',W',hrun,t1,t2,t3,t4⟩:=zjI Wf (w.heap.size+1+1) sb k _ qf.o2 hbs X44 (qn x2,x2.den) r44 HK1.out;refine zE 8 (by kernel_rfl) rfl (fun K hK=>?_);try simp only [zm,Act.put,zj,zi,zh,zg,zf,ze] at hK ⊢
    refine jV rfl rfl rfl rfl hrun ?_;refine hK.out _ _ ?_;clear hK K hrun;try simp only [zm,Act.put,zj,zi,zh,zg,zf,ze]
    refine zE 9 (by kernel_rfl) rfl (fun K hK=>?_);go_simp;refine hK.out _ _ ?_;clear hK K;try simp only [zm,Act.put,zj,zi,zh,zg,zf,ze]
    refine qc (by kernel_rfl) ?_ _;all_goals
     have hq3:=qf.app2 t1 t3 t4 HX2.out;have HQ3:=zb hq3;clear hq3 qf hbs t1 t2 t3 t4 s1 s2 s3 s4;go_wp2;go_roundw
   case rel=>exact ⟨k+1,_,_,Nat.le_add_left 1 k,Nat.succ_le_of_lt HLT.out,rfl,rfl,by go_num,HQ3.out⟩
   case measure=>have:=HLT.out;simp [intOf];omega
  ·obtain rfl:k=n+1:=by omega
   have hc0:decide (((n+1:Nat):Int)≤N.n)=false:=decide_eq_false (by have:=HNN.out;omega);have hc00:decide ((n:Int)+1≤N.n)=false:=decide_eq_false (by have:=HNN.out;omega);obtain ⟨a1,c1,rfl⟩:=yL hq.o1;obtain ⟨a2,c2,rfl⟩:=yL hq.o2;have QV:=zb hq;clear hq hlt hk1 hk2;go_wp2_with fail
   go_ret3;exact ⟨a1,c1,a2,c2,rfl,(gH QV.out.o1).2,(gH QV.out.o2).2,QV.out.bl⟩
end Go.Proofs.YtmhllppjcilllaaGreatDoor
