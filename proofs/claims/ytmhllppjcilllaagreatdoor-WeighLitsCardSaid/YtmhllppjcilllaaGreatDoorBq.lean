import Derived.Test.YtmhllppjcilllaaGreatDoorD4
import Derived.Test.YtmhllppjcilllaaGreatDoorRQ
import Derived.Test.YtmhllppjcilllaaGreatDoorN1
set_option linter.unusedSimpArgs false
set_option linter.unusedVariables false
section
set_option maxRecDepth 100000
set_option maxHeartbeats 1000000
open Go Go.RowKit Cs
namespace Cs
open Classical in
noncomputable def natOf (s:ByteArray):Nat:=if h:∃ V,za V=s then h.choose else 0
theorem zkm (V:Nat):natOf (za V)=V:=by
 unfold natOf;have h:∃ U,za U=za V:=⟨V,rfl⟩;rw [dif_pos h];exact zjv h.choose_spec
noncomputable def numAt (w:World) (b:Nat):Nat:=match w.cell? ⟨b,0,none⟩ with | some (.string s)=>natOf s | _=>0
theorem zht {w:World} {b V:Nat} {t:TypeId} (h:w.rowIs b t 1 fun _=>.string (za V)):numAt w b=V:=by
 unfold numAt;rw [zV h];exact zkm V
end Cs
namespace Go.Proofs.YtmhllppjcilllaaGreatDoor
theorem gcd_any (w:World) (a b:Nat) (ha:n8 a≤1000000) (hb:n8 b≤1000000) :
  Calls Tryz.prog 76 #[zN a,zN b] w fun e w'=>e = .returned (zN (Nat.gcd a b))∧Below w.heap.size w w':=by
 obtain ⟨G,hG⟩:∃ G,Nat.gcd a b=G:=⟨_,rfl⟩;rw [hG];have HG:=zb hG;clear hG;go_enter Tryz.func76, Tryz.ntmps76;go_wp2_with fail
 go_loopw [] (fun wr=>∃ x y:Nat,Hid (Nat.gcd x y=G)∧n8 x≤1000000∧n8 y≤1000000∧wr.rowIs w.heap.size 31 1 (fun _=>.string (za x))∧wr.rowIs (w.heap.size+1) 31 1 (fun _=>.string (za y)) ∧
   wr.rowIs (w.heap.size+1+1) 31 1 (fun _=>.string ⟨#[]⟩)∧Below w.heap.size w wr) (fun wr=>numAt wr (w.heap.size+1))
 case atStart=>exact ⟨a,b,HG,ha,hb,((qF w _ _ _ rfl).alloc _).alloc _,(qF (w.alloc _) _ _ _ (by simp)).alloc _,qF ((w.alloc _).alloc _) _ _ _ (by simp),(((zx _ _).alloc (zu _) _).alloc (by simp) _).alloc (by simp;omega) _⟩
 case round =>
  clear ha hb HG;obtain ⟨x,y,HG,hx,hy,hr1,hr2,hr3,hbel⟩:=hrel;rw [zht hr2];have hs:=zb0 y;have c1:=zV hr1;have c2:=zV hr2;have hl3:=hr3.lt;rcases Nat.eq_zero_or_pos y with hy0 | hy0
  ·subst hy0;rw [oW] at hs;have hG:=HG.out;rw [Nat.gcd_zero_right] at hG;subst hG;have c3:=zV hr3;have f3:=hr3.frozen 0;go_wp2;exact pZ rfl _ rfl (qZ hr3 _) rfl ⟨rfl,hbel.setCell (by simp;omega) _⟩
  ·have hs0:0<n8 y:=by
    rcases Nat.eq_zero_or_pos (n8 y) with h | h
    ·unfold n8 at h;rw [zbm 256 (by decide)] at h;omega
    ·exact h
   have hmod:x%y<y:=Nat.mod_lt _ hy0;have hm8:n8 (x%y)≤n8 y:=zdu (Nat.le_of_lt hmod);have hG2:Hid (Nat.gcd y (x%y)=G):=zb (by rw [← HG.out,Nat.gcd_comm y,Nat.gcd_comm x,← Nat.gcd_rec]);obtain ⟨m,hm⟩:∃ m,x%y=m:=⟨_,rfl⟩;have hdv:=fun W=>zix W x y hx hy hy0;rw [hm] at hmod hm8 hG2;simp only [hm] at hdv;have HD:=zb hdv;clear hdv hm HG;go_wp2_with (
    go_at_call 77;(with_reducible refine (HD.out _).mono ?_);rintro e w3 ⟨rfl,hb3⟩;replace hr1:=zo hr1 hb3;replace hr2:=zo hr2 hb3;replace hr3:=zo hr3 hb3;have hz3:=hb3.size;replace hbel:=hbel.trans (hb3.mono (by omega)))
   have hm6:=qF (w3.alloc (.cells #[.string (za (x / y))] 31)) (.string (za m)) 31 (w3.heap.size+1) (by simp);replace hr1:=(hr1.alloc (.cells #[.string (za (x / y))] 31)).alloc (.cells #[.string (za m)] 31);replace hr2:=(hr2.alloc (.cells #[.string (za (x / y))] 31)).alloc (.cells #[.string (za m)] 31);replace hr3:=(hr3.alloc (.cells #[.string (za (x / y))] 31)).alloc (.cells #[.string (za m)] 31);replace hbel:=(hbel.alloc (by omega) (.cells #[.string (za (x / y))] 31)).alloc (by simp;omega) (.cells #[.string (za m)] 31);generalize (w3.alloc (.cells #[.string (za (x / y))] 31)).alloc (.cells #[.string (za m)] 31)=W at hm6 hr1 hr2 hr3 hbel ⊢;clear c1 c2 hb3;have c1:=zV hr1;have c2:=zV hr2;have c6:=zV hm6;have f1:=hr1.frozen 0;have f2:=hr2.frozen 0;have hrel:∀ wq:World,wq=((W.setCell ⟨w.heap.size,0,none⟩ (.string (za y))).setCell ⟨w.heap.size+1,0,none⟩ (.string (za m))).drew→numAt wq (w.heap.size+1)=m ∧
     wq.rowIs w.heap.size 31 1 (fun _=>.string (za y))∧wq.rowIs (w.heap.size+1) 31 1 (fun _=>.string (za m))∧wq.rowIs (w.heap.size+1+1) 31 1 (fun _=>.string ⟨#[]⟩)∧Below w.heap.size w wq:=by
    rintro wq rfl;have h2:=qZ (hr2.setOther (a:=⟨w.heap.size,0,none⟩) (by simp) (.string (za y))) (.string (za m));exact ⟨zht h2.drew,((qZ hr1 _).setOther (by simp) _).drew,h2.drew,((hr3.setOther (by simp;omega) _).setOther (by simp) _).drew,((hbel.setCell (by simp) _).setCell (by simp) _).drew⟩
   have HREL:=zb hrel;clear hrel
   go_region
   try go_wp2
   go_roundw
   case rel=>exact ⟨y,m,hG2,hy,by omega,(HREL.out _ rfl).2⟩
   case measure=>rw [(HREL.out _ rfl).1];exact hmod
abbrev zI (n d:Nat):Value:=.agg #[.string (za n),.string (za d)]
theorem ziM:(Tryz.prog.info? 33).map (·.size)=some 2:=by kernel_rfl
def qI (n d:Nat) (i:Nat):Value:=if i=0 then .string (za n) else .string (za d)
theorem pN (w:World) (n d:Nat) (t:TypeId) (g:Nat) (hg:w.heap.size=g):(w.alloc (.cells #[.string (za n),.string (za d)] t)).rowIs g t 2 (qI n d):=by
 subst hg;exact World.rowIs_alloc w #[.string (za n),.string (za d)] t (qI n d) fun i hi=>by
  have:i=0∨i=1:=by simp at hi;omega
  rcases this with rfl | rfl <;> rfl
theorem zco (w:World) (t:TypeId) (g:Nat) (hg:w.heap.size=g):(w.alloc (.cells #[.string ⟨#[]⟩,.string ⟨#[]⟩] t)).rowIs g t 2 (qI 0 0):=by
 have:=pN w 0 0 t g hg;rwa [pP] at this
theorem qj {w:World} {g n d:Nat} {t:TypeId} (h:w.rowIs g t 2 (qI n d)):w.cell? ⟨g,0,none⟩=some (.string (za n))∧w.cell? ⟨g,1,none⟩=some (.string (za d)):=⟨h.cell (by omega),h.cell (i:=1) (by omega)⟩
theorem oT {w:World} {g n d:Nat} {t:TypeId} (h:w.rowIs g t 2 (qI n d)) (n' d':Nat):((w.setCell ⟨g,0,none⟩ (.string (za n'))).setCell ⟨g,1,none⟩ (.string (za d'))).rowIs g t 2 (qI n' d') :=
 ((h.set 0 _).set 1 _).congr fun i hi=>by
  have:i=0∨i=1:=by omega
  rcases this with rfl | rfl <;> rfl
theorem zcF {fn:Func} {R:Ending→World→Prop} {a:Act} {w:World} {p:Tmp} (h:fn.results=#[.cell p 33]) {g:Nat} {t:TypeId} (n d:Nat)
  (hp:a.tmps.getD p undef = .pointer (some ⟨g,0,none⟩)) (hrow:w.rowIs g t 2 (qI n d)) (hdf:a.defers=[]) (hR:R (.returned (zI n d)) w):bodyPost Tryz.prog fn R .ret a w :=
 zdX h g t 2 _ hp hrow _ Tryz.underlying33 rfl ziM hdf hR
theorem ju {fn:Func} {R:Ending→World→Prop} {a:Act} {w:World} {p u:Tmp} (h:fn.results=#[.cell p 33,.tmp u]) {g:Nat} {t:TypeId} (n d:Nat) {b:Value}
  (hp:a.tmps.getD p undef = .pointer (some ⟨g,0,none⟩)) (hb:a.tmps.getD u undef=b) (hrow:w.rowIs g t 2 (qI n d)) (hdf:a.defers=[]) (hR:R (.returned (.tuple #[zI n d,b])) w):bodyPost Tryz.prog fn R .ret a w:=by
 refine bodyPost_ret ?_ hdf hR;rw [results_cell_tmp h,hp];have hl:=run_loadVar_row (P:=Tryz.prog) w g t 33 _ (0,0) _ (jk hrow) Tryz.underlying33 rfl (by simpa using ziM);simp [asAddr,Result.andThen,hl,hb];rfl
theorem zeN (w:World) (a:Nat) (ha:n8 a≤1000000) :
  Calls Tryz.prog 75 #[zN a] w fun e w'=>e = .returned (.bool (decide (a=0)))∧Below w.heap.size w w':=by
 have hcp:=fun W=>zgF W a 0 (by omega) (by rw [oW];omega);have hcz:decide (a=0)=decide (qv a 0=0):=by
  refine decide_eq_decide.2 ?_;unfold qv;split
  ·omega
  ·split <;> omega
 rw [hcz];clear hcz;generalize qv a 0=M at *
 have hz:=pP;have hz0:zN 0 = .agg #[.string ⟨#[]⟩]:=by show Value.agg #[.string (za 0)]=_;rw [pP]
 rw [hz0] at hcp;have HCP:=zb hcp;clear hcp;go_enter Tryz.func75, Tryz.ntmps75;go_wp2_with (
  go_at_call 72;(with_reducible refine (HCP.out _).mono ?_);rintro e w0 ⟨rfl,hb0⟩)
 go_ret;exact ⟨rfl,((zx _ _).alloc (zu _) _).trans (hb0.mono (by simp))⟩
theorem jD (w:World):Calls Tryz.prog 34 #[.int .u64 1] w fun e w'=>e = .returned (zN 1)∧Below w.heap.size w w':=zhs w 1 (by decide)
theorem oV (w:World) (n d:Nat) (hd:n8 d≤1000000) :
  Calls Tryz.prog 73 #[zI n d] w fun e w'=>e = .returned (zN (qd d))∧Below w.heap.size w w':=by
 obtain ⟨Q,hQ⟩:∃ Q,qd d=Q:=⟨_,rfl⟩;rw [hQ];have hz:=fun W=>zeN W d hd;have H1:Hid (d=0→Q=1):=zb fun h=>by rw [← hQ,h];rfl
 have H2:Hid (d≠0→Q=d):=zb fun h=>by rw [← hQ];exact qM (by omega)
 have HZ:=zb hz;clear hz hQ;have hbx:=qF (w.alloc (.cells #[.string (za n),.string (za d)] 33)) (.string ⟨#[]⟩) 31 (w.heap.size+1) (by simp);have hrt:=(pN w n d 33 _ rfl).alloc (.cells #[.string ⟨#[]⟩] 31);have hbel:=((Below.refl w.heap.size w).alloc (zu _) (.cells #[.string (za n),.string (za d)] 33)).alloc (by simp) (.cells #[.string ⟨#[]⟩] 31);by_cases h0:d=0
 ·rw [H1.out h0];rw [show decide (d=0)=true from decide_eq_true h0] at HZ;clear h0 H1 H2;go_enter Tryz.func73, Tryz.ntmps73;go_wp2_with (first
   | (go_at_call 75
      (with_reducible refine (HZ.out _).mono ?_);rintro e w1 ⟨rfl,hb1⟩;replace hbx:=zo hbx hb1;have hz1:=hb1.size;simp at hz1;replace hbel:=hbel.trans (hb1.mono (by simp;omega)))
   | (go_at_call 34
      (with_reducible refine (jD _).mono ?_);rintro e w2 ⟨rfl,hb2⟩;replace hbx:=zo hbx hb2;have hc:=zV hbx;have hf:=hbx.frozen 0;replace hbel:=hbel.trans (hb2.mono (by omega))))
  exact pZ rfl _ rfl (qZ hbx _) rfl ⟨rfl,hbel.setCell (by simp) _⟩
 ·rw [H2.out h0];rw [show decide (d=0)=false from decide_eq_false h0] at HZ;clear h0 H1 H2;go_enter Tryz.func73, Tryz.ntmps73;go_wp2_with (
   go_at_call 75;(with_reducible refine (HZ.out _).mono ?_);rintro e w1 ⟨rfl,hb1⟩;replace hbx:=zo hbx hb1;replace hrt:=zo hrt hb1;have hc:=zV hbx;have hf:=hbx.frozen 0;have hr:=qj hrt;have hr1:=hr.2;have hz1:=hb1.size;simp at hz1;replace hbel:=hbel.trans (hb1.mono (by simp;omega)))
  exact pZ rfl _ rfl (qZ hbx _) rfl ⟨rfl,hbel.setCell (by simp) _⟩
theorem zd9 (w:World) (n d:Nat) (hn:n8 n≤1000000) (hd:n8 d≤1000000) (h0:0<d) :
  Calls Tryz.prog 32 #[zN n,zN d] w fun e w'=>e = .returned (.tuple #[zI (qn (qq n d)) (qq n d).den,.bool true])∧Below w.heap.size w w':=by
 have hqn:qn (qq n d)=n / Nat.gcd n d:=by rw [y8,qM h0]
 have hqd:(qq n d).den=d / Nat.gcd n d:=by rw [zhD,qM h0]
 rw [hqn,hqd];have hg0:0<Nat.gcd n d:=Nat.gcd_pos_of_pos_right _ h0;have hg8:n8 (Nat.gcd n d)≤1000000:=Nat.le_trans (zdu (Nat.gcd_le_right _ h0)) hd;have hz:=fun W=>zeN W d hd;rw [show decide (d=0)=false from decide_eq_false (by omega)] at hz;have hgc:=fun W=>gcd_any W n d hn hd;obtain ⟨g,hg⟩:∃ g,Nat.gcd n d=g:=⟨_,rfl⟩;rw [hg] at hg0 hg8 ⊢;simp only [hg] at hgc;have hd1:=fun W=>zix W n g hn hg8 hg0;have hd2:=fun W=>zix W d g hd hg8 hg0;generalize n / g=q1 at *
 generalize n%g=r1 at *
 generalize d / g=q2 at *
 generalize d%g=r2 at *
 have HZ:=zb hz;have HG:=zb hgc;have HD1:=zb hd1;have HD2:=zb hd2;clear hz hgc hd1 hd2 hqn hqd hg;go_enter Tryz.func32, Tryz.ntmps32;go_wp2_with (first
 | (go_at_call 75
    (with_reducible refine (HZ.out _).mono ?_);rintro e w1 ⟨rfl,hb1⟩;have hr1:=zo ((qF w (.string (za n)) 31 _ rfl).alloc (.cells #[.string (za d)] 31) |>.alloc (.cells #[.string ⟨#[]⟩,.string ⟨#[]⟩] 33)) hb1;have hr2:=zo ((qF (w.alloc (.cells #[.string (za n)] 31)) (.string (za d)) 31 (w.heap.size+1) (by simp)).alloc (.cells #[.string ⟨#[]⟩,.string ⟨#[]⟩] 33)) hb1;have hr3:=zo (zco ((w.alloc (.cells #[.string (za n)] 31)).alloc (.cells #[.string (za d)] 31)) 33 (w.heap.size+1+1) (by simp)) hb1;have hz1:=hb1.size;simp at hz1;have hbel:=((((Below.refl w.heap.size w).alloc (zu _) (.cells #[.string (za n)] 31)).alloc (by simp) (.cells #[.string (za d)] 31)).alloc (by simp;omega) (.cells #[.string ⟨#[]⟩,.string ⟨#[]⟩] 33)).trans (hb1.mono (by simp;omega));have c1:=zV hr1;have c2:=zV hr2)
 | (go_at_call 76
    (with_reducible refine (HG.out _).mono ?_);rintro e w2 ⟨rfl,hb2⟩;have hz2:=hb2.size;replace hbel:=(hbel.trans (hb2.mono (by omega))).alloc (by omega) (.cells #[.string (za g)] 31);replace hr1:=zo hr1 hb2;replace hr2:=zo hr2 hb2;have c1:=zV hr1;have c2:=zV hr2;replace hr1:=hr1.alloc (.cells #[.string (za g)] 31);replace hr2:=hr2.alloc (.cells #[.string (za g)] 31);replace hr3:=(zo hr3 hb2).alloc (.cells #[.string (za g)] 31);have hr6:=qF w2 (.string (za g)) 31 _ rfl;have hq1:w.heap.size<w2.heap.size:=by omega
    have hq2:w.heap.size+1<w2.heap.size:=by omega)
 | (go_at_call 77
    (with_reducible refine (HD1.out _).mono ?_);rintro e w3 ⟨rfl,hb3⟩;have hz3:=hb3.size;simp at hz3;replace hbel:=(hbel.trans (hb3.mono (by simp;omega))).setCell (p:=⟨w.heap.size,0,none⟩) (zu _) (.string (za q1));replace hr1:=zo hr1 hb3;replace hr2:=zo hr2 hb3;replace hr3:=zo hr3 hb3;replace hr6:=zo hr6 hb3;have c1:=zV hr1;have c2:=zV hr2;have c6:=zV hr6;have f1:=hr1.frozen 0;have hs1:=qZ hr1 (.string (za q1));replace hr2:=hr2.setOther (a:=⟨w.heap.size,0,none⟩) (by simp) (.string (za q1));replace hr3:=hr3.setOther (a:=⟨w.heap.size,0,none⟩) (by simp;omega) (.string (za q1));clear hr1 hb3)
 | (go_at_call 77
    (with_reducible refine (HD2.out _).mono ?_);rintro e w4 ⟨rfl,hb4⟩;have hz4:=hb4.size;simp at hz4;replace hbel:=(((hbel.trans (hb4.mono (by simp;omega))).setCell (p:=⟨w.heap.size+1,0,none⟩) (by simp) (.string (za q2))).setCell (p:=⟨w.heap.size+1+1,0,none⟩) (by simp;omega) (.string (za q1))).setCell (p:=⟨w.heap.size+1+1,1,none⟩) (by simp;omega) (.string (za q2));replace hr1:=zo hs1 hb4;replace hr2:=zo hr2 hb4;replace hr3:=zo hr3 hb4;have c1:=zV hr1;have c2:=zV hr2;have f2:=hr2.frozen 0;have d:=qj hr3;obtain ⟨d0,d1⟩:=d;have e0:=hr3.frozen 0;have e1:=hr3.frozen 1;replace hr3:=oT (hr3.setOther (a:=⟨w.heap.size+1,0,none⟩) (by simp) (.string (za q2))) q1 q2))
 exact ju rfl q1 q2 rfl rfl hr3 rfl ⟨rfl,hbel⟩
theorem xP (w:World) (n:Nat) :
  Calls Tryz.prog 32 #[zN n,zN 0] w fun e w'=>e = .returned (.tuple #[zI 0 0,.bool false])∧Below w.heap.size w w':=by
 have hz:=fun W=>zeN W 0 (by rw [oW];omega);rw [show decide ((0:Nat)=0)=true from rfl] at hz;have HZ:=zb hz;clear hz;go_enter Tryz.func32, Tryz.ntmps32;go_wp2_with (
  go_at_call 75;(with_reducible refine (HZ.out _).mono ?_);rintro e w1 ⟨rfl,hb1⟩;have hr3:=zo (zco ((w.alloc (.cells #[.string (za n)] 31)).alloc (.cells #[.string (za 0)] 31)) 33 (w.heap.size+1+1) (by simp)) hb1;have hz1:=hb1.size;simp at hz1;have hbel:=((((Below.refl w.heap.size w).alloc (zu _) (.cells #[.string (za n)] 31)).alloc (by simp) (.cells #[.string (za 0)] 31)).alloc (by simp;omega) (.cells #[.string ⟨#[]⟩,.string ⟨#[]⟩] 33)).trans (hb1.mono (by simp;omega));obtain ⟨d0,d1⟩:=qj hr3;have e0:=hr3.frozen 0;have e1:=hr3.frozen 1)
 have hs:=oT hr3 0 0;rw [pP] at hs;exact ju rfl 0 0 rfl rfl hs rfl ⟨rfl,(hbel.setCell (by simp;omega) _).setCell (by simp;omega) _⟩
end Go.Proofs.YtmhllppjcilllaaGreatDoor
end
section
open Go Go.RowKit Cs
namespace Cs
def zy (a:Array Value) (i:Nat):Value:=a.getD i undef
theorem zF (w:World) (a:Array Value) (t:TypeId) (g n:Nat) (hg:w.heap.size=g) (hn:a.size=n):(w.alloc (.cells a t)).rowIs g t n (zy a):=by
 subst hg;subst hn;exact World.rowIs_alloc w a t (zy a) fun i hi=>by unfold zy;rw [Array.getD_eq_getD_getElem?,Array.getElem?_eq_getElem hi];rfl
structure Bag (w w0:World) (D:Nat) (R:List (Nat×TypeId×Nat×Array Value)) (wr:World):Prop where
 rows:∀ r∈R,wr.rowIs r.1 r.2.1 r.2.2.1 (zy r.2.2.2)
 base:Below D w0 wr
 bl:Below w.heap.size w wr
 le:D≤wr.heap.size
 wD:w.heap.size≤D
section
variable {w w0 wr w':World} {D:Nat} {R:List (Nat×TypeId×Nat×Array Value)} {r:Nat×TypeId×Nat×Array Value}
theorem Bag.start (h:Below w.heap.size w wr):Bag w wr wr.heap.size [] wr:=⟨(fun _ h=>by cases h),zx _ _,h,zu _,h.size⟩
theorem Bag.below (h:Bag w w0 D R wr) (hb:Below wr.heap.size wr w'):Bag w w0 D R w':=⟨fun r hr=>zo (h.rows r hr) hb,h.base.trans (hb.mono h.le),zw h.bl hb h.bl.size,Nat.le_trans h.le hb.size,h.wD⟩
theorem Bag.drew (h:Bag w w0 D R wr):Bag w w0 D R wr.drew:=h.below (qV (zx _ _) 1)
theorem Bag.alloc (h:Bag w w0 D R wr) (o:Obj):Bag w w0 D R (wr.alloc o):=h.below ((zx _ _).alloc (zu _) _)
theorem Bag.cons (h:Bag w w0 D R wr) {b n:Nat} {t:TypeId} {a:Array Value} (hr:wr.rowIs b t n (zy a)):Bag w w0 D ((b,t,n,a)::R) wr:=by
 refine ⟨fun r h1=>?_,h.base,h.bl,h.le,h.wD⟩;rcases List.mem_cons.1 h1 with rfl | h1
 ·exact hr
 ·exact h.rows r h1
theorem Bag.new (h:Bag w w0 D R wr) (a:Array Value) (t:TypeId) (g n:Nat) (hg:wr.heap.size=g) (hn:a.size=n):Bag w w0 D ((g,t,n,a)::R) (wr.alloc (.cells a t)):=(h.alloc _).cons (zF wr a t g n hg hn)
theorem Bag.tail (h:Bag w w0 D (r::R) wr):Bag w w0 D R wr:=⟨fun s hs=>h.rows s (List.mem_cons_of_mem _ hs),h.base,h.bl,h.le,h.wD⟩
theorem Bag.row0 (h:Bag w w0 D (r::R) wr):wr.rowIs r.1 r.2.1 r.2.2.1 (zy r.2.2.2):=h.rows r (List.mem_cons_self ..)
theorem Bag.is0 {b n:Nat} {t:TypeId} {a:Array Value} (h:Bag w w0 D ((b,t,n,a)::R) wr) (i:Nat) (hi:i<n) (v:Value) (hv:zy a i=v):wr.cell? ⟨b,i,none⟩=some v:=(h.row0.cell hi).trans (by rw [hv])
theorem Bag.is (h:Bag w w0 D R wr) (b n:Nat) (t:TypeId) (a:Array Value) (hm:(b,t,n,a)∈R) (i:Nat) (hi:i<n) (v:Value) (hv:zy a i=v):wr.cell? ⟨b,i,none⟩=some v:=((h.rows _ hm).cell hi).trans (by rw [← hv])
theorem Bag.fresh (h:Bag w w0 D R wr):D≤wr.heap.size∧∀ r∈R,r.1≠wr.heap.size:=⟨h.le,fun r hr=>Nat.ne_of_lt (h.rows r hr).lt⟩
theorem qx {g:Nat} {t:TypeId} {f:Nat→Value} (h:wr.rowIs g t 2 f) (u v:Value):((wr.setCell ⟨g,0,none⟩ u).setCell ⟨g,1,none⟩ v).rowIs g t 2 (zy #[u,v]) :=
 ((h.set 0 u).set 1 v).congr fun i hi=>by
  have:i=0∨i=1:=by omega
  rcases this with rfl | rfl <;> rfl
theorem oneRow {g:Nat} {t:TypeId} {f:Nat→Value} (h:wr.rowIs g t 1 f) (u:Value):(wr.setCell ⟨g,0,none⟩ u).rowIs g t 1 (zy #[u]) :=
 (h.set 0 u).congr fun i hi=>by
  obtain rfl:i=0:=by omega
  rfl
theorem Bag.other (h:Bag w w0 D R wr) {X:Nat} (hX:D≤X) (hR:∀ r∈R,r.1≠X) (i:Nat) (v:Value):Bag w w0 D R (wr.setCell ⟨X,i,none⟩ v) :=
 ⟨fun r hr=>(h.rows r hr).setOther (hR r hr) _,h.base.setCell hX _,h.bl.setCell (Nat.le_trans h.wD hX) _,by rw [yW];exact h.le,h.wD⟩
end
theorem Bag.zero (w:World):Bag w w w.heap.size [] w:=⟨(fun _ h=>by cases h),zx _ _,zx _ _,zu _,zu _⟩
theorem qO {w:World} {g b i:Nat} {u v:Value} {x:Option Value} (hne:g≠b) (h:w.cell? ⟨b,i,none⟩=x):((w.setCell ⟨g,0,none⟩ u).setCell ⟨g,1,none⟩ v).cell? ⟨b,i,none⟩=x :=
 (World.cell?_setCell_far _ _ _ _ hne).trans ((World.cell?_setCell_far _ _ _ _ hne).trans h)
theorem rowNe {w:World} {b b' n n':Nat} {t t':TypeId} {f f':Nat→Value} (h:w.rowIs b t n f) (h':w.rowIs b' t' n' f') (hn:n≠n'):b≠b':=by
 rintro rfl;have e:=(jk h).symm.trans (jk h');injection e with e;injection e with e1 e2;have:=congrArg Array.size e1;simp at this;exact hn this
end Cs
end
