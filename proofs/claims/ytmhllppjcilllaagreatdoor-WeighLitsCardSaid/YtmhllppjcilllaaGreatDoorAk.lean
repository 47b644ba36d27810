import Derived.Test.YtmhllppjcilllaaGreatDoorLt
import Derived.Test.YtmhllppjcilllaaGreatDoorNr
import Derived.Test.YtmhllppjcilllaaGreatDoorDy
set_option linter.unusedSimpArgs false
set_option linter.unusedVariables false
set_option maxRecDepth 100000
set_option maxHeartbeats 4000000
open Go Go.RowKit Cs
namespace Cs
def qs (lw:Nat) (F:Nat→Nat) (v:Nat) (j:Nat):Nat:=if lw=0∨v=0 then 1 else (if j%2=0 then F ((v-1)%lw*4+j)%7 else F ((v-1)%lw*4+j)%5+1)
end Cs
namespace Go.Proofs.YtmhllppjcilllaaGreatDoor
theorem zee {fn:Func} {p q r s:Tmp} (h:fn.results=#[.tmp p,.tmp q,.tmp r,.tmp s]) (tmps:Array Value) (P:Program) (w:World) :
  (results fn tmps).run P w = .ok (.tuple #[tmps.getD p undef,tmps.getD q undef,tmps.getD r undef,tmps.getD s undef]) w:=by
 simp only [results,h];simp [Sem.run_bind,Result.andThen]
theorem quadRow {w:World} {g:Nat} {t:TypeId} {f:Nat→Value} (h:w.rowIs g t 4 f) (a b c d:Value):((((w.setCell ⟨g,0,none⟩ a).setCell ⟨g,1,none⟩ b).setCell ⟨g,2,none⟩ c).setCell ⟨g,3,none⟩ d).rowIs g t 4 (zy #[a,b,c,d]) :=
 ((((h.set 0 _).set 1 _).set 2 _).set 3 _).congr fun i hi=>by
  match i,hi with
  | 0,_=>rfl
  | 1,_=>rfl
  | 2,_=>rfl
  | 3,_=>rfl
theorem zhq (w:World) (N:Nt) (A:Option Addr) (c:Nat) (Aw:Option Addr) (lw cw:Nat) (At:Option Addr) (lt ct:Nat) (F:Nat→Nat) (v:Nat) (hv:v≤128) (hlw:lw≤140737488355328) (hw:Rd w w.heap.size Aw (lw*4) (fun i=>.int .u8 (F i:Nat))) (hF:∀ i,F i<256) :
  Calls Tryz.prog 54 #[yu N A c Aw lw cw At lt ct,.int .i64 v] w fun e w'=>e = .returned (.tuple #[.int .u64 (qs lw F v 0:Nat),.int .u64 (qs lw F v 1:Nat),.int .u64 (qs lw F v 2:Nat),.int .u64 (qs lw F v 3:Nat)])∧Below w.heap.size w w':=by
 have r0:=zF w #[.int .i64 N.n,.slice A N.l.length c,.slice Aw lw cw,.slice At lt ct] 28 w.heap.size 4 rfl rfl;have hb:=(Below.refl w.heap.size w).alloc (zu _) (.cells #[.int .i64 N.n,.slice A N.l.length c,.slice Aw lw cw,.slice At lt ct] 28);have s1:(w.alloc (.cells #[.int .i64 N.n,.slice A N.l.length c,.slice Aw lw cw,.slice At lt ct] 28)).cell? ⟨w.heap.size,2,none⟩=some (.slice Aw lw cw):=r0.cell (i:=2) (by decide);by_cases h0:lw=0∨v=0
 ·have e:∀ j,qs lw F v j=1:=fun j=>by unfold qs;rw [if_pos h0]
  rw [e,e,e,e];clear e;have fin:∀ (fn:Func),fn.results=#[.tmp 4,.tmp 5,.tmp 6,.tmp 7]→∀ (a:Act) (W:World),Below w.heap.size w W→a.tmps.getD 4 undef = .int .u64 1→a.tmps.getD 5 undef = .int .u64 1→a.tmps.getD 6 undef = .int .u64 1→a.tmps.getD 7 undef = .int .u64 1→a.defers=[] →
    bodyPost Tryz.prog fn (fun e w'=>e = .returned (.tuple #[.int .u64 ((1:Nat):Int),.int .u64 ((1:Nat):Int),.int .u64 ((1:Nat):Int),.int .u64 ((1:Nat):Int)])∧Below w.heap.size w w') .ret a W:=fun fn hf a W hb h4 h5 h6 h7 hd =>
   bodyPost_ret (by rw [zee hf,h4,h5,h6,h7];rfl) hd ⟨rfl,hb⟩
  have FIN:=zb fin;clear fin;by_cases hl:lw=0
  ·subst hl;go_enter Tryz.func54, Tryz.ntmps54;go_wp2_with fail
   refine FIN.out _ rfl _ _ hb ?_ ?_ ?_ ?_ ?_ <;> rfl
  ·have hvz:v=0:=h0.resolve_left hl;subst hvz;have d1:((lw:Int)==0)=false:=by simpa using hl
   go_enter Tryz.func54, Tryz.ntmps54;go_wp2_with fail
   refine FIN.out _ rfl _ _ hb ?_ ?_ ?_ ?_ ?_ <;> rfl
 ·obtain ⟨u,rfl⟩:∃ u,v=u+1:=⟨v-1,by omega⟩;have hlp:0<lw:=by omega
  obtain ⟨m,hm⟩:∃ m,u%lw=m:=⟨_,rfl⟩;have hml:m<lw:=by rw [← hm];exact Nat.mod_lt _ hlp
  have hrem:((u:Int)).tmod (lw:Int)=(m:Int):=by rw [← hm];rfl
  obtain ⟨bw,ow,rfl,hbw0,hcw⟩:=hw (by omega);obtain ⟨x0,hx0⟩:∃ x,F (m*4)=x:=⟨_,rfl⟩;obtain ⟨x1,hx1⟩:∃ x,F (m*4+1)=x:=⟨_,rfl⟩;obtain ⟨x2,hx2⟩:∃ x,F (m*4+2)=x:=⟨_,rfl⟩;obtain ⟨x3,hx3⟩:∃ x,F (m*4+3)=x:=⟨_,rfl⟩;have b0:=hF (m*4);have b1:=hF (m*4+1);have b2:=hF (m*4+2);have b3:=hF (m*4+3);have c0:(w.alloc (.cells #[.int .i64 N.n,.slice A N.l.length c,.slice (some ⟨bw,ow,none⟩) lw cw,.slice At lt ct] 28)).cell? ⟨bw,ow+m*4,none⟩=some (.int .u8 (x0:Nat)):=hx0▸zB hb hbw0 (hcw (m*4) (by omega));have c1:(w.alloc (.cells #[.int .i64 N.n,.slice A N.l.length c,.slice (some ⟨bw,ow,none⟩) lw cw,.slice At lt ct] 28)).cell? ⟨bw,ow+m*4+1,none⟩=some (.int .u8 (x1:Nat)):=hx1▸zB hb hbw0 (hcw (m*4+1) (by omega));have c2:(w.alloc (.cells #[.int .i64 N.n,.slice A N.l.length c,.slice (some ⟨bw,ow,none⟩) lw cw,.slice At lt ct] 28)).cell? ⟨bw,ow+m*4+2,none⟩=some (.int .u8 (x2:Nat)):=hx2▸zB hb hbw0 (hcw (m*4+2) (by omega));have c3:(w.alloc (.cells #[.int .i64 N.n,.slice A N.l.length c,.slice (some ⟨bw,ow,none⟩) lw cw,.slice At lt ct] 28)).cell? ⟨bw,ow+m*4+3,none⟩=some (.int .u8 (x3:Nat)):=hx3▸zB hb hbw0 (hcw (m*4+3) (by omega));have e0:qs lw F (u+1) 0=x0%7:=by unfold qs;rw [if_neg h0,if_pos rfl,Nat.add_sub_cancel,hm,Nat.add_zero,hx0]
  have e1:qs lw F (u+1) 1=x1%5+1:=by unfold qs;rw [if_neg h0,if_neg (by decide),Nat.add_sub_cancel,hm,hx1]
  have e2:qs lw F (u+1) 2=x2%7:=by unfold qs;rw [if_neg h0,if_pos rfl,Nat.add_sub_cancel,hm,hx2]
  have e3:qs lw F (u+1) 3=x3%5+1:=by unfold qs;rw [if_neg h0,if_neg (by decide),Nat.add_sub_cancel,hm,hx3]
  rw [e0,e1,e2,e3];obtain ⟨y0,hy0⟩:∃ y,x0%7=y:=⟨_,rfl⟩;obtain ⟨y1,hy1⟩:∃ y,x1%5=y:=⟨_,rfl⟩;obtain ⟨y2,hy2⟩:∃ y,x2%7=y:=⟨_,rfl⟩;obtain ⟨y3,hy3⟩:∃ y,x3%5=y:=⟨_,rfl⟩;rw [hy0,hy1,hy2,hy3];have t0:((x0:Int)).tmod 7=(y0:Int):=by rw [← hy0];rfl
  have k0:IntKind.u64.wrap (y0:Int)=(y0:Int):=by rw [IntKind.wrap_u64];omega
  have t1:((x1:Int)).tmod 5=(y1:Int):=by rw [← hy1];rfl
  have k1:IntKind.u64.wrap (y1:Int)=(y1:Int):=by rw [IntKind.wrap_u64];omega
  have l1:IntKind.u64.wrap ((y1:Int)+1)=(y1:Int)+1:=by rw [IntKind.wrap_u64];omega
  have t2:((x2:Int)).tmod 7=(y2:Int):=by rw [← hy2];rfl
  have k2:IntKind.u64.wrap (y2:Int)=(y2:Int):=by rw [IntKind.wrap_u64];omega
  have t3:((x3:Int)).tmod 5=(y3:Int):=by rw [← hy3];rfl
  have k3:IntKind.u64.wrap (y3:Int)=(y3:Int):=by rw [IntKind.wrap_u64];omega
  have l3:IntKind.u64.wrap ((y3:Int)+1)=(y3:Int)+1:=by rw [IntKind.wrap_u64];omega
  clear hy0 hy1 hy2 hy3;rw [hx0] at b0;rw [hx1] at b1;rw [hx2] at b2;rw [hx3] at b3;clear e0 e1 e2 e3 h0 hm;have hne:¬ lw=0:=by omega
  have hwr:IntKind.i64.wrap (u:Int)=(u:Int):=by rw [IntKind.wrap_i64];omega
  have g1:((lw:Int)==0)=false:=by simpa using (by omega:¬ lw=0)
  have g2:(((u+1:Nat):Int)==0)=false:=by simp;omega
  clear hx0 hx1 hx2 hx3 hcw hw hF;have C0:=zb c0;have C1:=zb c1;have C2:=zb c2;have C3:=zb c3;have HB:=zb hb;have R0:=zb r0;clear c0 c1 c2 c3 hb r0;go_enter Tryz.func54, Tryz.ntmps54;go_upto_region 3 with (fail)
  obtain ⟨V0,hV0⟩:∃ V,w.alloc (.cells #[.int .i64 N.n,.slice A N.l.length c,.slice (some ⟨bw,ow,none⟩) lw cw,.slice At lt ct] 28)=V:=⟨_,rfl⟩;rw [hV0] at s1 C0 C1 C2 C3 HB R0 ⊢;go_cut [8] from 17 to 26 (fun p wx=>∃ g8,p = .pointer (some ⟨g8,0,none⟩)∧wx.rowIs g8 160 4 (zy #[.int .u8 (x0:Int),.int .u8 (x1:Int),.int .u8 (x2:Int),.int .u8 (x3:Int)])∧Below w.heap.size w wx)
  case first =>
   have s2:=C0.out;have s3:=C1.out;have s4:=C2.out;have s5:=C3.out;have hbx:=R0.out.lt;have hbw:=World.block_lt_of_cell? _ _ s2;have HS:Hid (∀ W,Below V0.heap.size V0 W→W.cell? ⟨w.heap.size,2,none⟩=some (.slice (some ⟨bw,ow,none⟩) lw cw)∧W.cell? ⟨bw,ow+m*4,none⟩=some (.int .u8 (x0:Int))∧W.cell? ⟨bw,ow+m*4+1,none⟩=some (.int .u8 (x1:Int))∧W.cell? ⟨bw,ow+m*4+2,none⟩=some (.int .u8 (x2:Int))∧W.cell? ⟨bw,ow+m*4+3,none⟩=some (.int .u8 (x3:Int))):=zb fun W hb=>⟨zC hb s1 hbx,zC hb s2 hbw,zC hb s3 hbw,zC hb s4 hbw,zC hb s5 hbw⟩;refine yx (n:=_) (PX:=[zl (.pointer (some ⟨w.heap.size,2,none⟩)),
      zl (.slice (some ⟨bw,ow,none⟩) lw cw),
      zl (.int .i64 ((u+1:Nat):Int)),
      zl (.int .i64 (u:Int)),
      zl (.pointer (some ⟨w.heap.size,2,none⟩)),
      zl (.slice (some ⟨bw,ow,none⟩) lw cw),
      zl (.int .i64 (lw:Int)),
      zl (.int .i64 (m:Int)),
      zl (.pointer (some ⟨bw,ow+m*4,none⟩)),
      zl (.agg #[.int .u8 (x0:Int),.int .u8 (x1:Int),.int .u8 (x2:Int),.int .u8 (x3:Int)]),
      fun xl xv xw=>∃ X,xv = .pointer (some ⟨X,0,none⟩)∧V0.heap.size≤X∧World.rowIs xw X 160 4 (zy #[.int .u8 0,.int .u8 0,.int .u8 0,.int .u8 0])])
     (AL:=[10]) (DP:=[[],[0],[],[2],[],[4],[5],[3,6],[1,7],[8],[]]) (L1:=[0,1,2,3,4,5,6,7,8,9,10]) (ex:=[]) (by kernel_rfl) rfl (by kernel_rfl) ?_ ?_ (yH ?_)
   ·repeat' first|exact zW|refine zk ?_ ?_|exact fun _ _ _ _ h _=>h|fail
    ·exact fun l v w w2 h hb=>by obtain ⟨X,h1,h2,h3⟩:=h;exact ⟨X,h1,h2,zo h3 hb⟩
   ·refine zk (zv rfl [] ?_) (zk (zv rfl [(0,some 17)] ?_) (zk (zv rfl [] ?_) (zk (zv rfl [(2,some 19)] ?_) (zk (zv rfl [] ?_) (zk (zv rfl [(4,some 21)] ?_) (zk (zv rfl [(5,some 22)] ?_) (zk (zv rfl [(3,some 20),(6,some 23)] ?_) (zk (zv rfl [(1,some 18),(7,some 24)] ?_) (zk (zv rfl [(8,some 25)] ?_) (zk ?_ zW))))))))));all_goals try (intro vs W hW hd K hK;(try simp only [qa,zl,and_true,List.getD_cons_succ,List.getD_cons_zero] at hd);(first | simp only [hd,zm,Act.put,zj,zi,zh,zg,zf,ze] at hK ⊢ | simp only [zm,Act.put,zj,zi,zh,zg,zf,ze] at hK ⊢ | skip);obtain ⟨m1,m2,m3,m4,m5⟩:=HS.out W hW;go_simp;exact hK.out _ _ rfl (zx _ _) (qU rfl))
    ·refine zJ rfl [] ?_;intro vs W hW hd K hK;clear hd;try simp only [zm,Act.put,zj,zi,zh,zg,zf,ze] at hK ⊢
     go_simp;exact hK.out _ _ ⟨W.heap.size,rfl,hW.size,zF _ _ _ _ _ rfl rfl⟩ ((zx _ _).alloc (zu _) _) (fun _ b hb=>by simp [z7] at hb;subst hb;exact ⟨zu _,by simp⟩)
   refine qQ [(0,some 17),(1,some 18),(2,some 19),(3,some 20),(4,some 21),(5,some 22),(6,some 23),(7,some 24),(8,some 25),(9,some 26),(10,some 8)] #[true,true,true,true,true,true,true,true,true,true,true,false] 1 ?_;intro vs Wf hW hd hbk hdis kf;simp only [qa,zl,and_true,List.getD_cons_succ,List.getD_cons_zero] at hd;obtain ⟨d0,d1,d2,d3,d4,d5,d6,d7,d8,d9,⟨X8,d10,b8,r8⟩⟩:=hd;clear hbk hdis;try simp only [d0,d1,d2,d3,d4,d5,d6,d7,d8,d9,d10,zm,Act.put,zj,zi,zh,zg,zf,ze]
   clear d0 d1 d2 d3 d4 d5 d6 d7 d8 d9 d10 vs;clear HS;have l8:=r8.lt;have y8_0:=r8.frozen 0;have k8_0:=r8.cell (i:=0) (by decide);have y8_1:=r8.frozen 1;have k8_1:=r8.cell (i:=1) (by decide);have y8_2:=r8.frozen 2;have k8_2:=r8.cell (i:=2) (by decide);have y8_3:=r8.frozen 3;have k8_3:=r8.cell (i:=3) (by decide);refine zE 11 (by kernel_rfl) rfl (fun K hK=>?_);go_simp;refine hK.out _ _ ?_;clear hK K;try simp only [zm,Act.put,zj,zi,zh,zg,zf,ze]
   refine qc (by kernel_rfl) ?_ _;all_goals
    try go_wp2
    go_meet;have hX8:w.heap.size≤X8:=Nat.le_trans HB.out.size b8;have hb8f:=zw HB.out hW HB.out.size;exact ⟨X8,rfl,quadRow r8 _ _ _ _,(((hb8f.setCell (p:=⟨X8,0,none⟩) hX8 _).setCell (p:=⟨X8,1,none⟩) hX8 _).setCell (p:=⟨X8,2,none⟩) hX8 _).setCell (p:=⟨X8,3,none⟩) hX8 _⟩
  case rest =>
  obtain ⟨g8,rfl,r8,hbl⟩:=hcut;have s1:wc.cell? ⟨g8,0,none⟩=some (.int .u8 (x0:Int)):=r8.cell (i:=0) (by decide);have s2:wc.cell? ⟨g8,1,none⟩=some (.int .u8 (x1:Int)):=r8.cell (i:=1) (by decide);have s3:wc.cell? ⟨g8,2,none⟩=some (.int .u8 (x2:Int)):=r8.cell (i:=2) (by decide);have s4:wc.cell? ⟨g8,3,none⟩=some (.int .u8 (x3:Int)):=r8.cell (i:=3) (by decide);have hg8:=r8.lt;have BL:=zb hbl;clear C0 C1 C2 C3 r8 hbl;go_wp2_with fail
  have HS:Hid (∀ W,Below wc.heap.size wc W→W.cell? ⟨g8,0,none⟩=some (.int .u8 (x0:Int))∧W.cell? ⟨g8,1,none⟩=some (.int .u8 (x1:Int))∧W.cell? ⟨g8,2,none⟩=some (.int .u8 (x2:Int))∧W.cell? ⟨g8,3,none⟩=some (.int .u8 (x3:Int))):=zb fun W hb=>⟨zC hb s1 hg8,zC hb s2 hg8,zC hb s3 hg8,zC hb s4 hg8⟩;refine yx (n:=_) (PX:=[zl (.pointer (some ⟨g8,0,none⟩)),
     zl (.int .u8 (x0:Int)),
     zl (.int .u8 (y0:Int)),
     zl (.int .u64 (y0:Int)),
     zl (.pointer (some ⟨g8,1,none⟩)),
     zl (.int .u8 (x1:Int)),
     zl (.int .u8 (y1:Int)),
     zl (.int .u64 (y1:Int)),
     zl (.int .u64 ((y1+1:Nat):Int)),
     zl (.pointer (some ⟨g8,2,none⟩)),
     zl (.int .u8 (x2:Int)),
     zl (.int .u8 (y2:Int)),
     zl (.int .u64 (y2:Int)),
     zl (.pointer (some ⟨g8,3,none⟩)),
     zl (.int .u8 (x3:Int)),
     zl (.int .u8 (y3:Int)),
     zl (.int .u64 (y3:Int)),
     zl (.int .u64 ((y3+1:Nat):Int)),
     zl (.int .u64 (y0:Int)),
     zl (.int .u64 ((y1+1:Nat):Int)),
     zl (.int .u64 (y2:Int)),
     zl (.int .u64 ((y3+1:Nat):Int))])
    (AL:=[]) (DP:=[[],[0],[1],[2],[],[4],[5],[6],[7],[],[9],[10],[11],[],[13],[14],[15],[16],[3],[8],[12],[17]]) (L1:=[0,1,2,3,4,5,6,7,8,9,10,11,12,13,14,15,16,17,18,19,20,21]) (ex:=[]) (by kernel_rfl) rfl (by kernel_rfl) ?_ ?_ (yH ?_)
  ·repeat' first|exact zW|refine zk ?_ ?_|exact fun _ _ _ _ h _=>h
  ·refine zk (zv rfl [] ?_) (zk (zv rfl [(0,some 27)] ?_) (zk (zv rfl [(1,some 28)] ?_) (zk (zv rfl [(2,some 29)] ?_) (zk (zv rfl [] ?_) (zk (zv rfl [(4,some 31)] ?_) (zk (zv rfl [(5,some 32)] ?_) (zk (zv rfl [(6,some 33)] ?_) (zk (zv rfl [(7,some 34)] ?_) (zk (zv rfl [] ?_) (zk (zv rfl [(9,some 36)] ?_) (zk (zv rfl [(10,some 37)] ?_) (zk (zv rfl [(11,some 38)] ?_) (zk (zv rfl [] ?_) (zk (zv rfl [(13,some 40)] ?_) (zk (zv rfl [(14,some 41)] ?_) (zk (zv rfl [(15,some 42)] ?_) (zk (zv rfl [(16,some 43)] ?_) (zk (zv rfl [(3,some 30)] ?_) (zk (zv rfl [(8,some 35)] ?_) (zk (zv rfl [(12,some 39)] ?_) (zk (zv rfl [(17,some 44)] ?_) zW)))))))))))))))))))));all_goals (intro vs W hW hd K hK;(try simp only [qa,zl,and_true,List.getD_cons_succ,List.getD_cons_zero] at hd);(first | simp only [hd,zm,Act.put,zj,zi,zh,zg,zf,ze] at hK ⊢ | simp only [zm,Act.put,zj,zi,zh,zg,zf,ze] at hK ⊢ | skip);obtain ⟨m1,m2,m3,m4⟩:=HS.out W hW;go_simp;exact hK.out _ _ rfl (zx _ _) (qU rfl))
  refine qQ [(0,some 27),(1,some 28),(2,some 29),(3,some 30),(4,some 31),(5,some 32),(6,some 33),(7,some 34),(8,some 35),(9,some 36),(10,some 37),(11,some 38),(12,some 39),(13,some 40),(14,some 41),(15,some 42),(16,some 43),(17,some 44),(18,some 4),(19,some 5),(20,some 6),(21,some 7)] #[true,true,true,true,true,true,true,true,true,true,true,true,true,true,true,true,true,true,true,true,true,true] 0 ?_;intro vs Wf hW hd hbk hdis kf;simp only [qa,zl,and_true,List.getD_cons_succ,List.getD_cons_zero] at hd;obtain ⟨d0,d1,d2,d3,d4,d5,d6,d7,d8,d9,d10,d11,d12,d13,d14,d15,d16,d17,d18,d19,d20,d21⟩:=hd;clear hbk hdis;try simp only [d0,d1,d2,d3,d4,d5,d6,d7,d8,d9,d10,d11,d12,d13,d14,d15,d16,d17,d18,d19,d20,d21,zm,Act.put,zj,zi,zh,zg,zf,ze]
  clear d0 d1 d2 d3 d4 d5 d6 d7 d8 d9 d10 d11 d12 d13 d14 d15 d16 d17 d18 d19 d20 d21 vs;clear HS;refine qc (by kernel_rfl) ?_ _;all_goals
   try go_wp2
   exact bodyPost_ret (zee rfl _ _ _) rfl ⟨rfl,zw BL.out hW BL.out.size⟩
end Go.Proofs.YtmhllppjcilllaaGreatDoor
