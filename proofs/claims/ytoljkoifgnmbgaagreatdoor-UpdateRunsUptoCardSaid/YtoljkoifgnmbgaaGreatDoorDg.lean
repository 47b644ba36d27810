import Derived.Test.YtoljkoifgnmbgaaGreatDoorD4
import Derived.Test.YtoljkoifgnmbgaaGreatDoorNr
set_option linter.unusedSimpArgs false
set_option linter.unusedVariables false
set_option maxRecDepth 100000
set_option maxHeartbeats 1000000
open Go Go.RowKit Cs
namespace Cs
open Classical in
noncomputable def natOf (s:ByteArray):Nat:=if h:∃ V,zb V=s then h.choose else 0
theorem zlt (V:Nat):natOf (zb V)=V:=by
 unfold natOf;have h:∃ U,zb U=zb V:=⟨V,rfl⟩;rw [dif_pos h];exact zko h.choose_spec
noncomputable def numAt (w:World) (b:Nat):Nat:=match w.cell? ⟨b,0,none⟩ with | some (.string s)=>natOf s | _=>0
theorem zix {w:World} {b V:Nat} {t:TypeId} (h:w.rowIs b t 1 fun _=>.string (zb V)):numAt w b=V:=by
 unfold numAt;rw [zN h];exact zlt V
end Cs
namespace Go.Proofs.YtoljkoifgnmbgaaGreatDoor
theorem gcd_any (w:World) (a b:Nat) (ha:n8 a≤1000000) (hb:n8 b≤1000000) :
  Calls Tryz.prog 134 #[zD a,zD b] w fun e w'=>e = .returned (zD (Nat.gcd a b))∧Below w.heap.size w w':=by
 obtain ⟨G,hG⟩:∃ G,Nat.gcd a b=G:=⟨_,rfl⟩;rw [hG];have HG:=za hG;clear hG;go_enter Tryz.func134, Tryz.ntmps134;go_wp2_with fail
 go_loopw [] (fun wr=>∃ x y:Nat,Hid (Nat.gcd x y=G)∧n8 x≤1000000∧n8 y≤1000000∧wr.rowIs w.heap.size 54 1 (fun _=>.string (zb x))∧wr.rowIs (w.heap.size+1) 54 1 (fun _=>.string (zb y)) ∧
   wr.rowIs (w.heap.size+1+1) 54 1 (fun _=>.string ⟨#[]⟩)∧Below w.heap.size w wr) (fun wr=>numAt wr (w.heap.size+1))
 case atStart=>exact ⟨a,b,HG,ha,hb,((qu w _ _ _ rfl).alloc _).alloc _,(qu (w.alloc _) _ _ _ (by simp)).alloc _,qu ((w.alloc _).alloc _) _ _ _ (by simp),(((zA _ _).alloc (zi _) _).alloc (by simp) _).alloc (by simp;omega) _⟩
 case round =>
  clear ha hb HG;obtain ⟨x,y,HG,hx,hy,hr1,hr2,hr3,hbel⟩:=hrel;rw [zix hr2];have hs:=zbv y;have c1:=zN hr1;have c2:=zN hr2;have hl3:=hr3.lt;rcases Nat.eq_zero_or_pos y with hy0 | hy0
  ·subst hy0;rw [ja] at hs;have hG:=HG.out;rw [Nat.gcd_zero_right] at hG;subst hG;have c3:=zN hr3;have f3:=hr3.frozen 0;go_wp2;exact yN rfl _ rfl (qP hr3 _) rfl ⟨rfl,hbel.setCell (by simp;omega) _⟩
  ·have hs0:0<n8 y:=by
    rcases Nat.eq_zero_or_pos (n8 y) with h | h
    ·unfold n8 at h;rw [zbj 256 (by decide)] at h;omega
    ·exact h
   have hmod:x%y<y:=Nat.mod_lt _ hy0;have hm8:n8 (x%y)≤n8 y:=zdf (Nat.le_of_lt hmod);have hG2:Hid (Nat.gcd y (x%y)=G):=za (by rw [← HG.out,Nat.gcd_comm y,Nat.gcd_comm x,← Nat.gcd_rec]);obtain ⟨m,hm⟩:∃ m,x%y=m:=⟨_,rfl⟩;have hdv:=fun W=>zjz W x y hx hy hy0;rw [hm] at hmod hm8 hG2;simp only [hm] at hdv;have HD:=za hdv;clear hdv hm HG;go_wp2_with (
    go_at_call 135;(with_reducible refine (HD.out _).mono ?_);rintro e w3 ⟨rfl,hb3⟩;replace hr1:=zh hr1 hb3;replace hr2:=zh hr2 hb3;replace hr3:=zh hr3 hb3;have hz3:=hb3.size;replace hbel:=hbel.trans (hb3.mono (by omega)))
   have hm6:=qu (w3.alloc (.cells #[.string (zb (x / y))] 54)) (.string (zb m)) 54 (w3.heap.size+1) (by simp);replace hr1:=(hr1.alloc (.cells #[.string (zb (x / y))] 54)).alloc (.cells #[.string (zb m)] 54);replace hr2:=(hr2.alloc (.cells #[.string (zb (x / y))] 54)).alloc (.cells #[.string (zb m)] 54);replace hr3:=(hr3.alloc (.cells #[.string (zb (x / y))] 54)).alloc (.cells #[.string (zb m)] 54);replace hbel:=(hbel.alloc (by omega) (.cells #[.string (zb (x / y))] 54)).alloc (by simp;omega) (.cells #[.string (zb m)] 54);generalize (w3.alloc (.cells #[.string (zb (x / y))] 54)).alloc (.cells #[.string (zb m)] 54)=W at hm6 hr1 hr2 hr3 hbel ⊢;clear c1 c2 hb3;have c1:=zN hr1;have c2:=zN hr2;have c6:=zN hm6;have f1:=hr1.frozen 0;have f2:=hr2.frozen 0;have hrel:∀ wq:World,wq=((W.setCell ⟨w.heap.size,0,none⟩ (.string (zb y))).setCell ⟨w.heap.size+1,0,none⟩ (.string (zb m))).drew→numAt wq (w.heap.size+1)=m ∧
     wq.rowIs w.heap.size 54 1 (fun _=>.string (zb y))∧wq.rowIs (w.heap.size+1) 54 1 (fun _=>.string (zb m))∧wq.rowIs (w.heap.size+1+1) 54 1 (fun _=>.string ⟨#[]⟩)∧Below w.heap.size w wq:=by
    rintro wq rfl;have h2:=qP (hr2.setOther (a:=⟨w.heap.size,0,none⟩) (by simp) (.string (zb y))) (.string (zb m));exact ⟨zix h2.drew,((qP hr1 _).setOther (by simp) _).drew,h2.drew,((hr3.setOther (by simp;omega) _).setOther (by simp) _).drew,((hbel.setCell (by simp) _).setCell (by simp) _).drew⟩
   have HREL:=za hrel;clear hrel
   go_region
   try go_wp2
   go_roundw
   case rel=>exact ⟨y,m,hG2,hy,by omega,(HREL.out _ rfl).2⟩
   case measure=>rw [(HREL.out _ rfl).1];exact hmod
abbrev zZ (n d:Nat):Value:=.agg #[.string (zb n),.string (zb d)]
theorem zjL:(Tryz.prog.info? 60).map (·.size)=some 2:=by kernel_rfl
def zl8 (n d:Nat) (i:Nat):Value:=if i=0 then .string (zb n) else .string (zb d)
theorem zcK (w:World) (n d:Nat) (t:TypeId) (g:Nat) (hg:w.heap.size=g):(w.alloc (.cells #[.string (zb n),.string (zb d)] t)).rowIs g t 2 (zl8 n d):=by
 subst hg;exact World.rowIs_alloc w #[.string (zb n),.string (zb d)] t (zl8 n d) fun i hi=>by
  have:i=0∨i=1:=by simp at hi;omega
  rcases this with rfl | rfl <;> rfl
theorem zcl (w:World) (t:TypeId) (g:Nat) (hg:w.heap.size=g):(w.alloc (.cells #[.string ⟨#[]⟩,.string ⟨#[]⟩] t)).rowIs g t 2 (zl8 0 0):=by
 have:=zcK w 0 0 t g hg;rwa [yI] at this
theorem qB {w:World} {g n d:Nat} {t:TypeId} (h:w.rowIs g t 2 (zl8 n d)):w.cell? ⟨g,0,none⟩=some (.string (zb n))∧w.cell? ⟨g,1,none⟩=some (.string (zb d)):=⟨h.cell (by omega),h.cell (i:=1) (by omega)⟩
theorem zcJ {w:World} {g n d:Nat} {t:TypeId} (h:w.rowIs g t 2 (zl8 n d)) (n' d':Nat):((w.setCell ⟨g,0,none⟩ (.string (zb n'))).setCell ⟨g,1,none⟩ (.string (zb d'))).rowIs g t 2 (zl8 n' d') :=
 ((h.set 0 _).set 1 _).congr fun i hi=>by
  have:i=0∨i=1:=by omega
  rcases this with rfl | rfl <;> rfl
theorem zck {fn:Func} {R:Ending→World→Prop} {a:Act} {w:World} {p:Tmp} (h:fn.results=#[.cell p 60]) {g:Nat} {t:TypeId} (n d:Nat)
  (hp:a.tmps.getD p undef = .pointer (some ⟨g,0,none⟩)) (hrow:w.rowIs g t 2 (zl8 n d)) (hdf:a.defers=[]) (hR:R (.returned (zZ n d)) w):bodyPost Tryz.prog fn R .ret a w :=
 zjg h g t 2 _ hp hrow _ Tryz.underlying60 rfl zjL hdf hR
theorem xy {fn:Func} {R:Ending→World→Prop} {a:Act} {w:World} {p u:Tmp} (h:fn.results=#[.cell p 60,.tmp u]) {g:Nat} {t:TypeId} (n d:Nat) {b:Value}
  (hp:a.tmps.getD p undef = .pointer (some ⟨g,0,none⟩)) (hb:a.tmps.getD u undef=b) (hrow:w.rowIs g t 2 (zl8 n d)) (hdf:a.defers=[]) (hR:R (.returned (.tuple #[zZ n d,b])) w):bodyPost Tryz.prog fn R .ret a w:=by
 refine bodyPost_ret ?_ hdf hR;rw [results_cell_tmp h,hp];have hl:=run_loadVar_row (P:=Tryz.prog) w g t 60 _ (0,0) _ (gp hrow) Tryz.underlying60 rfl (by simpa using zjL);simp [asAddr,Result.andThen,hl,hb];rfl
theorem zf2 (w:World) (a:Nat) (ha:n8 a≤1000000) :
  Calls Tryz.prog 133 #[zD a] w fun e w'=>e = .returned (.bool (decide (a=0)))∧Below w.heap.size w w':=by
 have hcp:=fun W=>zj4 W a 0 (by omega) (by rw [ja];omega);have hcz:decide (a=0)=decide (qH a 0=0):=by
  refine decide_eq_decide.2 ?_;unfold qH;split
  ·omega
  ·split <;> omega
 rw [hcz];clear hcz;generalize qH a 0=M at *
 have hz:=yI;have hz0:zD 0 = .agg #[.string ⟨#[]⟩]:=by show Value.agg #[.string (zb 0)]=_;rw [yI]
 rw [hz0] at hcp;have HCP:=za hcp;clear hcp;go_enter Tryz.func133, Tryz.ntmps133;go_wp2_with (
  go_at_call 35;(with_reducible refine (HCP.out _).mono ?_);rintro e w0 ⟨rfl,hb0⟩)
 go_ret;exact ⟨rfl,((zA _ _).alloc (zi _) _).trans (hb0.mono (by simp))⟩
theorem zfG (w:World):Calls Tryz.prog 47 #[.int .u64 1] w fun e w'=>e = .returned (zD 1)∧Below w.heap.size w w':=zdc w 1 (by decide)
theorem zdG (w:World) (n d:Nat) (hd:n8 d≤1000000) :
  Calls Tryz.prog 89 #[zZ n d] w fun e w'=>e = .returned (zD (qd d))∧Below w.heap.size w w':=by
 obtain ⟨Q,hQ⟩:∃ Q,qd d=Q:=⟨_,rfl⟩;rw [hQ];have hz:=fun W=>zf2 W d hd;have H1:Hid (d=0→Q=1):=za fun h=>by rw [← hQ,h];rfl
 have H2:Hid (d≠0→Q=d):=za fun h=>by rw [← hQ];exact yE (by omega)
 have HZ:=za hz;clear hz hQ;have hbx:=qu (w.alloc (.cells #[.string (zb n),.string (zb d)] 60)) (.string ⟨#[]⟩) 54 (w.heap.size+1) (by simp);have hrt:=(zcK w n d 60 _ rfl).alloc (.cells #[.string ⟨#[]⟩] 54);have hbel:=((Below.refl w.heap.size w).alloc (zi _) (.cells #[.string (zb n),.string (zb d)] 60)).alloc (by simp) (.cells #[.string ⟨#[]⟩] 54);by_cases h0:d=0
 ·rw [H1.out h0];rw [show decide (d=0)=true from decide_eq_true h0] at HZ;clear h0 H1 H2;go_enter Tryz.func89, Tryz.ntmps89;go_wp2_with (first
   | (go_at_call 133
      (with_reducible refine (HZ.out _).mono ?_);rintro e w1 ⟨rfl,hb1⟩;replace hbx:=zh hbx hb1;have hz1:=hb1.size;simp at hz1;replace hbel:=hbel.trans (hb1.mono (by simp;omega)))
   | (go_at_call 47
      (with_reducible refine (zfG _).mono ?_);rintro e w2 ⟨rfl,hb2⟩;replace hbx:=zh hbx hb2;have hc:=zN hbx;have hf:=hbx.frozen 0;replace hbel:=hbel.trans (hb2.mono (by omega))))
  exact yN rfl _ rfl (qP hbx _) rfl ⟨rfl,hbel.setCell (by simp) _⟩
 ·rw [H2.out h0];rw [show decide (d=0)=false from decide_eq_false h0] at HZ;clear h0 H1 H2;go_enter Tryz.func89, Tryz.ntmps89;go_wp2_with (
   go_at_call 133;(with_reducible refine (HZ.out _).mono ?_);rintro e w1 ⟨rfl,hb1⟩;replace hbx:=zh hbx hb1;replace hrt:=zh hrt hb1;have hc:=zN hbx;have hf:=hbx.frozen 0;have hr:=qB hrt;have hr1:=hr.2;have hz1:=hb1.size;simp at hz1;replace hbel:=hbel.trans (hb1.mono (by simp;omega)))
  exact yN rfl _ rfl (qP hbx _) rfl ⟨rfl,hbel.setCell (by simp) _⟩
theorem zdW (w:World) (n d:Nat) (hn:n8 n≤1000000) (hd:n8 d≤1000000) (h0:0<d) :
  Calls Tryz.prog 85 #[zD n,zD d] w fun e w'=>e = .returned (.tuple #[zZ (qn (qq n d)) (qq n d).den,.bool true])∧Below w.heap.size w w':=by
 have hqn:qn (qq n d)=n / Nat.gcd n d:=by rw [gP,yE h0]
 have hqd:(qq n d).den=d / Nat.gcd n d:=by rw [zk1,yE h0]
 rw [hqn,hqd];have hg0:0<Nat.gcd n d:=Nat.gcd_pos_of_pos_right _ h0;have hg8:n8 (Nat.gcd n d)≤1000000:=Nat.le_trans (zdf (Nat.gcd_le_right _ h0)) hd;have hz:=fun W=>zf2 W d hd;rw [show decide (d=0)=false from decide_eq_false (by omega)] at hz;have hgc:=fun W=>gcd_any W n d hn hd;obtain ⟨g,hg⟩:∃ g,Nat.gcd n d=g:=⟨_,rfl⟩;rw [hg] at hg0 hg8 ⊢;simp only [hg] at hgc;have hd1:=fun W=>zjz W n g hn hg8 hg0;have hd2:=fun W=>zjz W d g hd hg8 hg0;generalize n / g=q1 at *
 generalize n%g=r1 at *
 generalize d / g=q2 at *
 generalize d%g=r2 at *
 have HZ:=za hz;have HG:=za hgc;have HD1:=za hd1;have HD2:=za hd2;clear hz hgc hd1 hd2 hqn hqd hg;go_enter Tryz.func85, Tryz.ntmps85;go_wp2_with (first
 | (go_at_call 133
    (with_reducible refine (HZ.out _).mono ?_);rintro e w1 ⟨rfl,hb1⟩;have hr1:=zh ((qu w (.string (zb n)) 54 _ rfl).alloc (.cells #[.string (zb d)] 54) |>.alloc (.cells #[.string ⟨#[]⟩,.string ⟨#[]⟩] 60)) hb1;have hr2:=zh ((qu (w.alloc (.cells #[.string (zb n)] 54)) (.string (zb d)) 54 (w.heap.size+1) (by simp)).alloc (.cells #[.string ⟨#[]⟩,.string ⟨#[]⟩] 60)) hb1;have hr3:=zh (zcl ((w.alloc (.cells #[.string (zb n)] 54)).alloc (.cells #[.string (zb d)] 54)) 60 (w.heap.size+1+1) (by simp)) hb1;have hz1:=hb1.size;simp at hz1;have hbel:=((((Below.refl w.heap.size w).alloc (zi _) (.cells #[.string (zb n)] 54)).alloc (by simp) (.cells #[.string (zb d)] 54)).alloc (by simp;omega) (.cells #[.string ⟨#[]⟩,.string ⟨#[]⟩] 60)).trans (hb1.mono (by simp;omega));have c1:=zN hr1;have c2:=zN hr2)
 | (go_at_call 134
    (with_reducible refine (HG.out _).mono ?_);rintro e w2 ⟨rfl,hb2⟩;have hz2:=hb2.size;replace hbel:=(hbel.trans (hb2.mono (by omega))).alloc (by omega) (.cells #[.string (zb g)] 54);replace hr1:=zh hr1 hb2;replace hr2:=zh hr2 hb2;have c1:=zN hr1;have c2:=zN hr2;replace hr1:=hr1.alloc (.cells #[.string (zb g)] 54);replace hr2:=hr2.alloc (.cells #[.string (zb g)] 54);replace hr3:=(zh hr3 hb2).alloc (.cells #[.string (zb g)] 54);have hr6:=qu w2 (.string (zb g)) 54 _ rfl;have hq1:w.heap.size<w2.heap.size:=by omega
    have hq2:w.heap.size+1<w2.heap.size:=by omega)
 | (go_at_call 135
    (with_reducible refine (HD1.out _).mono ?_);rintro e w3 ⟨rfl,hb3⟩;have hz3:=hb3.size;simp at hz3;replace hbel:=(hbel.trans (hb3.mono (by simp;omega))).setCell (p:=⟨w.heap.size,0,none⟩) (zi _) (.string (zb q1));replace hr1:=zh hr1 hb3;replace hr2:=zh hr2 hb3;replace hr3:=zh hr3 hb3;replace hr6:=zh hr6 hb3;have c1:=zN hr1;have c2:=zN hr2;have c6:=zN hr6;have f1:=hr1.frozen 0;have hs1:=qP hr1 (.string (zb q1));replace hr2:=hr2.setOther (a:=⟨w.heap.size,0,none⟩) (by simp) (.string (zb q1));replace hr3:=hr3.setOther (a:=⟨w.heap.size,0,none⟩) (by simp;omega) (.string (zb q1));clear hr1 hb3)
 | (go_at_call 135
    (with_reducible refine (HD2.out _).mono ?_);rintro e w4 ⟨rfl,hb4⟩;have hz4:=hb4.size;simp at hz4;replace hbel:=(((hbel.trans (hb4.mono (by simp;omega))).setCell (p:=⟨w.heap.size+1,0,none⟩) (by simp) (.string (zb q2))).setCell (p:=⟨w.heap.size+1+1,0,none⟩) (by simp;omega) (.string (zb q1))).setCell (p:=⟨w.heap.size+1+1,1,none⟩) (by simp;omega) (.string (zb q2));replace hr1:=zh hs1 hb4;replace hr2:=zh hr2 hb4;replace hr3:=zh hr3 hb4;have c1:=zN hr1;have c2:=zN hr2;have f2:=hr2.frozen 0;have d:=qB hr3;obtain ⟨d0,d1⟩:=d;have e0:=hr3.frozen 0;have e1:=hr3.frozen 1;replace hr3:=zcJ (hr3.setOther (a:=⟨w.heap.size+1,0,none⟩) (by simp) (.string (zb q2))) q1 q2))
 exact xy rfl q1 q2 rfl rfl hr3 rfl ⟨rfl,hbel⟩
theorem pc (w:World) (n:Nat) :
  Calls Tryz.prog 85 #[zD n,zD 0] w fun e w'=>e = .returned (.tuple #[zZ 0 0,.bool false])∧Below w.heap.size w w':=by
 have hz:=fun W=>zf2 W 0 (by rw [ja];omega);rw [show decide ((0:Nat)=0)=true from rfl] at hz;have HZ:=za hz;clear hz;go_enter Tryz.func85, Tryz.ntmps85;go_wp2_with (
  go_at_call 133;(with_reducible refine (HZ.out _).mono ?_);rintro e w1 ⟨rfl,hb1⟩;have hr3:=zh (zcl ((w.alloc (.cells #[.string (zb n)] 54)).alloc (.cells #[.string (zb 0)] 54)) 60 (w.heap.size+1+1) (by simp)) hb1;have hz1:=hb1.size;simp at hz1;have hbel:=((((Below.refl w.heap.size w).alloc (zi _) (.cells #[.string (zb n)] 54)).alloc (by simp) (.cells #[.string (zb 0)] 54)).alloc (by simp;omega) (.cells #[.string ⟨#[]⟩,.string ⟨#[]⟩] 60)).trans (hb1.mono (by simp;omega));obtain ⟨d0,d1⟩:=qB hr3;have e0:=hr3.frozen 0;have e1:=hr3.frozen 1)
 have hs:=zcJ hr3 0 0;rw [yI] at hs;exact xy rfl 0 0 rfl rfl hs rfl ⟨rfl,(hbel.setCell (by simp;omega) _).setCell (by simp;omega) _⟩
end Go.Proofs.YtoljkoifgnmbgaaGreatDoor
