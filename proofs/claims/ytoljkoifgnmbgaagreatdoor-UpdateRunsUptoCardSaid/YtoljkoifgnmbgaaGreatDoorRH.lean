import Derived.Test.YtoljkoifgnmbgaaGreatDoorB1
import Derived.Test.YtoljkoifgnmbgaaGreatDoorRE
import Derived.Test.YtoljkoifgnmbgaaGreatDoorM1
import Derived.Test.YtoljkoifgnmbgaaGreatDoorRP
set_option linter.unusedSimpArgs false
set_option linter.unusedVariables false
section
open Go Go.RowKit Cs
namespace Cs
def zE (a:Array Value) (i:Nat):Value:=a.getD i undef
theorem zU (w:World) (a:Array Value) (t:TypeId) (g n:Nat) (hg:w.heap.size=g) (hn:a.size=n):(w.alloc (.cells a t)).rowIs g t n (zE a):=by
 subst hg;subst hn;exact World.rowIs_alloc w a t (zE a) fun i hi=>by unfold zE;rw [Array.getD_eq_getD_getElem?,Array.getElem?_eq_getElem hi];rfl
structure Bag (w w0:World) (D:Nat) (R:List (Nat×TypeId×Nat×Array Value)) (wr:World):Prop where
 rows:∀ r∈R,wr.rowIs r.1 r.2.1 r.2.2.1 (zE r.2.2.2)
 base:Below D w0 wr
 bl:Below w.heap.size w wr
 le:D≤wr.heap.size
 wD:w.heap.size≤D
section
variable {w w0 wr w':World} {D:Nat} {R:List (Nat×TypeId×Nat×Array Value)} {r:Nat×TypeId×Nat×Array Value}
theorem Bag.below (h:Bag w w0 D R wr) (hb:Below wr.heap.size wr w'):Bag w w0 D R w':=⟨fun r hr=>zh (h.rows r hr) hb,h.base.trans (hb.mono h.le),zu h.bl hb h.bl.size,Nat.le_trans h.le hb.size,h.wD⟩
theorem Bag.drew (h:Bag w w0 D R wr):Bag w w0 D R wr.drew:=h.below (qw (zA _ _) 1)
theorem Bag.alloc (h:Bag w w0 D R wr) (o:Obj):Bag w w0 D R (wr.alloc o):=h.below ((zA _ _).alloc (zi _) _)
theorem Bag.cons (h:Bag w w0 D R wr) {b n:Nat} {t:TypeId} {a:Array Value} (hr:wr.rowIs b t n (zE a)):Bag w w0 D ((b,t,n,a)::R) wr:=by
 refine ⟨fun r h1=>?_,h.base,h.bl,h.le,h.wD⟩;rcases List.mem_cons.1 h1 with rfl | h1
 ·exact hr
 ·exact h.rows r h1
theorem Bag.new (h:Bag w w0 D R wr) (a:Array Value) (t:TypeId) (g n:Nat) (hg:wr.heap.size=g) (hn:a.size=n):Bag w w0 D ((g,t,n,a)::R) (wr.alloc (.cells a t)):=(h.alloc _).cons (zU wr a t g n hg hn)
theorem Bag.row0 (h:Bag w w0 D (r::R) wr):wr.rowIs r.1 r.2.1 r.2.2.1 (zE r.2.2.2):=h.rows r (List.mem_cons_self ..)
theorem Bag.is0 {b n:Nat} {t:TypeId} {a:Array Value} (h:Bag w w0 D ((b,t,n,a)::R) wr) (i:Nat) (hi:i<n) (v:Value) (hv:zE a i=v):wr.cell? ⟨b,i,none⟩=some v:=(h.row0.cell hi).trans (by rw [hv])
theorem Bag.is (h:Bag w w0 D R wr) (b n:Nat) (t:TypeId) (a:Array Value) (hm:(b,t,n,a)∈R) (i:Nat) (hi:i<n) (v:Value) (hv:zE a i=v):wr.cell? ⟨b,i,none⟩=some v:=((h.rows _ hm).cell hi).trans (by rw [← hv])
theorem Bag.fresh (h:Bag w w0 D R wr):D≤wr.heap.size∧∀ r∈R,r.1≠wr.heap.size:=⟨h.le,fun r hr=>Nat.ne_of_lt (h.rows r hr).lt⟩
theorem yH {g:Nat} {t:TypeId} {f:Nat→Value} (h:wr.rowIs g t 2 f) (u v:Value):((wr.setCell ⟨g,0,none⟩ u).setCell ⟨g,1,none⟩ v).rowIs g t 2 (zE #[u,v]) :=
 ((h.set 0 u).set 1 v).congr fun i hi=>by
  have:i=0∨i=1:=by omega
  rcases this with rfl | rfl <;> rfl
theorem oneRow {g:Nat} {t:TypeId} {f:Nat→Value} (h:wr.rowIs g t 1 f) (u:Value):(wr.setCell ⟨g,0,none⟩ u).rowIs g t 1 (zE #[u]) :=
 (h.set 0 u).congr fun i hi=>by
  obtain rfl:i=0:=by omega
  rfl
theorem Bag.other (h:Bag w w0 D R wr) {X:Nat} (hX:D≤X) (hR:∀ r∈R,r.1≠X) (i:Nat) (v:Value):Bag w w0 D R (wr.setCell ⟨X,i,none⟩ v) :=
 ⟨fun r hr=>(h.rows r hr).setOther (hR r hr) _,h.base.setCell hX _,h.bl.setCell (Nat.le_trans h.wD hX) _,by rw [zf];exact h.le,h.wD⟩
end
theorem Bag.zero (w:World):Bag w w w.heap.size [] w:=⟨(fun _ h=>by cases h),zA _ _,zA _ _,zi _,zi _⟩
theorem zdY {w:World} {g b i:Nat} {u v:Value} {x:Option Value} (hne:g≠b) (h:w.cell? ⟨b,i,none⟩=x):((w.setCell ⟨g,0,none⟩ u).setCell ⟨g,1,none⟩ v).cell? ⟨b,i,none⟩=x :=
 (World.cell?_setCell_far _ _ _ _ hne).trans ((World.cell?_setCell_far _ _ _ _ hne).trans h)
theorem rowNe {w:World} {b b' n n':Nat} {t t':TypeId} {f f':Nat→Value} (h:w.rowIs b t n f) (h':w.rowIs b' t' n' f') (hn:n≠n'):b≠b':=by
 rintro rfl;have e:=(gp h).symm.trans (gp h');injection e with e;injection e with e1 e2;have:=congrArg Array.size e1;simp at this;exact hn this
end Cs
end
section
set_option maxRecDepth 100000
set_option maxHeartbeats 4000000
open Go Go.RowKit Cs
namespace Go.Proofs.YtoljkoifgnmbgaaGreatDoor
theorem rnew_no (w:World) (N:Nt) (A Al Ah:Option Addr) (c cl ch ml mh:Nat) (R:Int) (hlen:N.l.length≤140737488355328) (hN:NtAt w w.heap.size A N.l)
  (h:(zC N=false∧R=1)∨(zC N=true∧¬ (ml:Int)=N.n+1∧R=1)∨(zC N=true∧(ml:Int)=N.n+1∧¬ (mh:Int)=N.n+1∧R=1) ∨
    (zC N=true∧(ml:Int)=N.n+1∧(mh:Int)=N.n+1∧qz N≠0∧R=qz N) ∨
    (zC N=true∧(ml:Int)=N.n+1∧(mh:Int)=N.n+1∧qz N=0∧R=2∧∀ W,Below w.heap.size w W→Calls Tryz.prog 54 #[.slice Al ml cl,.slice Ah mh ch] W fun e w'=>e = .returned (.bool true)∧Below W.heap.size W w')) :
  Calls Tryz.prog 16 #[ql N A c,.slice Al ml cl,.slice Ah mh ch] w fun e w'=>e = .returned (.tuple #[.pointer none,.int .i64 R])∧Below w.heap.size w w':=by
 have hck:=fun W hN=>zg1 W N A c hlen hN;have hc1:zC N=true→qz N≠1:=fun hv=>by
  unfold qz;rw [hv];simp;split
  ·split <;> decide
  ·decide
 have hc2:zC N=false→qz N=1:=fun hv=>by unfold qz;rw [hv];rfl
 obtain ⟨E,hE⟩:∃ E,qz N=E:=⟨_,rfl⟩;rw [hE] at hck hc1 hc2 h;have HCK:=za hck;clear hck hE;obtain ⟨Nn,l⟩:=N;simp only at h hN;have q0:=(Bag.zero w).new #[.int .i64 Nn,.slice A l.length c] 24 w.heap.size 2 rfl rfl;have HNT:=za (fun W (hb:Below w.heap.size w W)=>(hN.below hb).more hb.size);clear hN;rcases h with ⟨h1,rfl⟩ | ⟨h1,h2,rfl⟩ | ⟨h1,h2,h3,rfl⟩ | ⟨h1,h2,h3,h4,rfl⟩ | ⟨h1,h2,h3,h4,rfl,hhv⟩
 ·have hE:=hc2 h1;subst hE;clear hc1 hc2 h1;go_enter Tryz.func16, Tryz.ntmps16;go_wp2_with fail
  refine (HCK.out _ (HNT.out _ q0.bl)).mono ?_;rintro e w1 ⟨rfl,hb1⟩;have q1:=q0.below hb1;have m1:=q1.is0 0 (by decide) (.int .i64 Nn) rfl;have m2:=q1.is0 1 (by decide) (.slice A l.length c) rfl;clear hb1;go_wp2_with fail
  go_ret2;exact ⟨rfl,q1.bl⟩
 ·have b1:(E==1)=false:=beq_eq_false_iff_ne.2 (hc1 h1);have b2:((ml:Int)==Nn+1)=false:=beq_eq_false_iff_ne.2 h2;have b3:((ml:Int) != Nn+1)=true:=by simp [bne,b2]
  obtain ⟨hn0,hn1,_,_⟩:=qD h1;simp only at hn0 hn1;clear hc1 hc2 h1 h2;go_enter Tryz.func16, Tryz.ntmps16;go_wp2_with fail
  refine (HCK.out _ (HNT.out _ q0.bl)).mono ?_;rintro e w1 ⟨rfl,hb1⟩;have q1:=q0.below hb1;have m1:=q1.is0 0 (by decide) (.int .i64 Nn) rfl;have m2:=q1.is0 1 (by decide) (.slice A l.length c) rfl;clear hb1;go_wp2_with fail
  go_ret2;exact ⟨rfl,q1.bl⟩
 ·have b1:(E==1)=false:=beq_eq_false_iff_ne.2 (hc1 h1);have b2:((ml:Int)==Nn+1)=true:=beq_iff_eq.2 h2;have b3:((ml:Int) != Nn+1)=false:=by simp [bne,b2]
  have b4:((mh:Int)==Nn+1)=false:=beq_eq_false_iff_ne.2 h3;have b5:((mh:Int) != Nn+1)=true:=by simp [bne,b4]
  obtain ⟨hn0,hn1,_,_⟩:=qD h1;simp only at hn0 hn1;clear hc1 hc2 h1 h2 h3;go_enter Tryz.func16, Tryz.ntmps16;go_wp2_with fail
  refine (HCK.out _ (HNT.out _ q0.bl)).mono ?_;rintro e w1 ⟨rfl,hb1⟩;have q1:=q0.below hb1;have m1:=q1.is0 0 (by decide) (.int .i64 Nn) rfl;have m2:=q1.is0 1 (by decide) (.slice A l.length c) rfl;clear hb1;go_wp2_with fail
  go_ret2;exact ⟨rfl,q1.bl⟩
 ·have b1:(R==1)=false:=beq_eq_false_iff_ne.2 (hc1 h1);have b2:((ml:Int)==Nn+1)=true:=beq_iff_eq.2 h2;have b3:((ml:Int) != Nn+1)=false:=by simp [bne,b2]
  have b4:((mh:Int)==Nn+1)=true:=beq_iff_eq.2 h3;have b5:((mh:Int) != Nn+1)=false:=by simp [bne,b4]
  have b6:(R==0)=false:=beq_eq_false_iff_ne.2 h4;have b7:(R != 0)=true:=by simp [bne,b6]
  obtain ⟨hn0,hn1,_,_⟩:=qD h1;simp only at hn0 hn1;clear hc1 hc2 h1 h2 h3 h4;go_enter Tryz.func16, Tryz.ntmps16;go_wp2_with fail
  refine (HCK.out _ (HNT.out _ q0.bl)).mono ?_;rintro e w1 ⟨rfl,hb1⟩;have q1:=q0.below hb1;have m1:=q1.is0 0 (by decide) (.int .i64 Nn) rfl;have m2:=q1.is0 1 (by decide) (.slice A l.length c) rfl;clear hb1;go_wp2_with fail
  go_ret2;exact ⟨rfl,q1.bl⟩
 ·subst h4;have b2:((ml:Int)==Nn+1)=true:=beq_iff_eq.2 h2;have b3:((ml:Int) != Nn+1)=false:=by simp [bne,b2]
  have b4:((mh:Int)==Nn+1)=true:=beq_iff_eq.2 h3;have b5:((mh:Int) != Nn+1)=false:=by simp [bne,b4]
  have HHV:=za hhv;obtain ⟨hn0,hn1,_,_⟩:=qD h1;simp only at hn0 hn1;clear hc1 hc2 h1 h2 h3 hhv;go_enter Tryz.func16, Tryz.ntmps16;go_wp2_with fail
  refine (HCK.out _ (HNT.out _ q0.bl)).mono ?_;rintro e w1 ⟨rfl,hb1⟩;have q1:=q0.below hb1;have m1:=q1.is0 0 (by decide) (.int .i64 Nn) rfl;have m2:=q1.is0 1 (by decide) (.slice A l.length c) rfl;clear hb1;go_wp2_with fail
  refine (HHV.out _ q1.bl).mono ?_;rintro e w2 ⟨rfl,hb2⟩;have q2:=q1.below hb2;clear hb2 m1 m2;go_wp2_with fail
  go_ret2;exact ⟨rfl,q2.bl⟩
theorem rnew_ok (w:World) (N:Nt) (A Al Ah:Option Addr) (c cl ch ml mh:Nat) (hlen:N.l.length≤140737488355328) (hN:NtAt w w.heap.size A N.l)
  (h1:zC N=true) (h2:(ml:Int)=N.n+1) (h3:(mh:Int)=N.n+1) (h4:qz N=0) (hhv:∀ W,Below w.heap.size w W→Calls Tryz.prog 54 #[.slice Al ml cl,.slice Ah mh ch] W fun e w'=>e = .returned (.bool false)∧Below W.heap.size W w') :
  Calls Tryz.prog 16 #[ql N A c,.slice Al ml cl,.slice Ah mh ch] w fun e w'=>∃ g,e = .returned (.tuple #[.pointer (some ⟨g,0,none⟩),.int .i64 0])∧w.heap.size≤g ∧
   w'.rowIs g 104 6 (zE #[.int .i64 N.n,.slice A N.l.length c,.slice Al ml cl,.slice Ah mh ch,.slice none 0 0,.int .i64 0])∧Below w.heap.size w w':=by
 have hck:=fun W hN=>zg1 W N A c hlen hN;rw [h4] at hck;have HCK:=za hck;clear hck h4;obtain ⟨Nn,l⟩:=N;simp only at h2 h3 hN;have q0:=(Bag.zero w).new #[.int .i64 Nn,.slice A l.length c] 24 w.heap.size 2 rfl rfl;have HNT:=za (fun W (hb:Below w.heap.size w W)=>(hN.below hb).more hb.size);clear hN;have b2:((ml:Int)==Nn+1)=true:=beq_iff_eq.2 h2;have b3:((ml:Int) != Nn+1)=false:=by simp [bne,b2]
 have b4:((mh:Int)==Nn+1)=true:=beq_iff_eq.2 h3;have b5:((mh:Int) != Nn+1)=false:=by simp [bne,b4]
 have HHV:=za hhv;obtain ⟨hn0,hn1,_,_⟩:=qD h1;simp only at hn0 hn1;clear h1 h2 h3 hhv;go_enter Tryz.func16, Tryz.ntmps16;go_wp2_with fail
 refine (HCK.out _ (HNT.out _ q0.bl)).mono ?_;rintro e w1 ⟨rfl,hb1⟩;have q1:=q0.below hb1;have m1:=q1.is0 0 (by decide) (.int .i64 Nn) rfl;have m2:=q1.is0 1 (by decide) (.slice A l.length c) rfl;clear hb1;go_wp2_with fail
 refine (HHV.out _ q1.bl).mono ?_;rintro e w2 ⟨rfl,hb2⟩;have q2:=q1.below hb2;have m3:=q2.is0 0 (by decide) (.int .i64 Nn) rfl;have m4:=q2.is0 1 (by decide) (.slice A l.length c) rfl;clear hb2 m1 m2;go_wp2_with fail
 go_ret2;exact ⟨_,rfl,q2.bl.size,zU w2 _ _ _ _ rfl rfl,q2.bl.alloc q2.bl.size _⟩
end Go.Proofs.YtoljkoifgnmbgaaGreatDoor
end
section
set_option maxRecDepth 100000
set_option maxHeartbeats 400000
section
namespace Cs
def jo (a b i:Nat):Nat:=if a%10^i<b%10^i then 1 else 0
theorem brw_zero (a b:Nat):jo a b 0=0:=by simp [jo,Nat.mod_one]
theorem brw_le (a b i:Nat):jo a b i≤1:=by unfold jo;split <;> omega
theorem sub_div (a b p:Nat) (h:b≤a) (hp:0<p):(a-b) / p+(b / p+(if a%p<b%p then 1 else 0))=a / p:=by
 have ha:=Nat.div_add_mod a p;have hb:=Nat.div_add_mod b p;have ra:=Nat.mod_lt a hp;have rb:=Nat.mod_lt b hp;generalize hx:a / p=x at *
 generalize hy:b / p=y at *
 generalize a%p=A at *
 generalize b%p=B at *
 split
 ·rename_i hlt;have hyx:y+1≤x:=by
   refine Nat.le_of_not_lt fun h2=>?_;have:p*x≤p*y:=Nat.mul_le_mul_left _ (by omega);omega
  obtain ⟨z,rfl⟩:∃ z,x=z+(y+1):=⟨x-(y+1),by omega⟩;have e:a-b=A+p-B+p*z:=by
   rw [Nat.mul_add,Nat.mul_add] at ha;omega
  rw [e,Nat.add_mul_div_left _ _ hp,Nat.div_eq_of_lt (by omega)];omega
 ·rename_i hlt;have hyx:y≤x:=by
   refine Nat.le_of_not_lt fun h2=>?_;have:p*(x+1)≤p*y:=Nat.mul_le_mul_left _ h2;rw [Nat.mul_add] at this;omega
  obtain ⟨z,rfl⟩:∃ z,x=z+y:=⟨x-y,by omega⟩;have e:a-b=A-B+p*z:=by
   rw [Nat.mul_add] at ha;omega
  rw [e,Nat.add_mul_div_left _ _ hp,Nat.div_eq_of_lt (by omega)];omega
theorem sub_dg (a b i:Nat) (h:b≤a):(dg 10 a i+10-dg 10 b i-jo a b i)%10=dg 10 (a-b) i:=by
 have h1:=sub_div a b (10^i) h (jA i);unfold dg jo;split at h1
 ·rename_i hlt;rw [if_pos hlt];omega
 ·rename_i hlt;rw [if_neg hlt];omega
theorem brw_succ (a b i:Nat):jo a b (i+1)=if dg 10 a i<dg 10 b i+jo a b i then 1 else 0:=by
 have ha:=zbw 10 a i;have hb:=zbw 10 b i;have ra:=Nat.mod_lt a (jA i);have rb:=Nat.mod_lt b (jA i);unfold jo;rw [ha,hb];generalize dg 10 a i=x;generalize dg 10 b i=y;generalize 10^i=p at *
 generalize a%p=A at *
 generalize b%p=B at *
 have key:A+p*x<B+p*y↔x<y+(if A<B then 1 else 0):=by
  rcases Nat.lt_trichotomy x y with h | h | h
  ·have:p*(x+1)≤p*y:=Nat.mul_le_mul_left _ h;rw [Nat.mul_add] at this;constructor
   ·intro;split <;> omega
   ·intro;omega
  ·subst h;constructor
   ·intro h;rw [if_pos (by omega)];omega
   ·intro h;split at h <;> omega
  ·have:p*(y+1)≤p*x:=Nat.mul_le_mul_left _ h;rw [Nat.mul_add] at this;constructor
   ·intro;omega
   ·intro h2;split at h2 <;> omega
 by_cases h:A+p*x<B+p*y
 ·rw [if_pos h,if_pos (key.1 h)]
 ·rw [if_neg h,if_neg (fun h2=>h (key.2 h2))]
theorem sub_nd (a b:Nat):nd 10 (a-b)≤nd 10 a:=zhq 10 (by decide) (Nat.sub_le _ _)
theorem div_nd (a b:Nat):nd 10 (a / b)≤nd 10 a:=zhq 10 (by decide) (Nat.div_le_self _ _)
end Cs
end
section
open Go Go.RowKit Cs
namespace Go.Proofs.YtoljkoifgnmbgaaGreatDoor
theorem zch (a:ByteArray):a.toList=a.data.toList:=by simp [ByteArray.toList_eq]
theorem zkG {a b:ByteArray} (h:a≠b):(a.toList==b.toList)=false:=beq_eq_false_iff_ne.2 fun e=>h (by
 rw [zch,zch] at e;apply ByteArray.ext;apply Array.ext';exact e)
theorem zli (w:World) (a b:ByteArray) (h:a.size<b.size):Calls Tryz.prog 146 #[.string a,.string b] w fun e w'=>e = .returned (.int .i64 (-1))∧w=w':=by
 go_enter Tryz.func146, Tryz.ntmps146;go_wp2;go_ret;exact ⟨rfl,rfl⟩
theorem rcmp_eq (w:World) (a:ByteArray) (hl:Op.bytesLess a.toList a.toList=false):Calls Tryz.prog 146 #[.string a,.string a] w fun e w'=>e = .returned (.int .i64 0)∧w=w':=by
 go_enter Tryz.func146, Tryz.ntmps146;go_wp2;go_ret;exact ⟨rfl,rfl⟩
theorem xZ (w:World) (a b:ByteArray) (h:b.size<a.size) (hne:a≠b):Calls Tryz.prog 146 #[.string a,.string b] w fun e w'=>e = .returned (.int .i64 1)∧w=w':=by
 have hne2:=zkG hne;have h1:decide (a.size<b.size)=false:=decide_eq_false (by omega);have h2:((a.size:Int)==(b.size:Int))=false:=beq_eq_false_iff_ne.2 (by omega);clear hne;go_enter Tryz.func146, Tryz.ntmps146;go_wp2;go_ret;exact ⟨rfl,rfl⟩
theorem rcmp_gt (w:World) (a b:ByteArray) (h:a.size=b.size) (hl:Op.bytesLess a.toList b.toList=false) (hne:a≠b):Calls Tryz.prog 146 #[.string a,.string b] w fun e w'=>e = .returned (.int .i64 1)∧w=w':=by
 have hne2:=zkG hne;clear hne;have hi:a.size≤b.size:=by omega
 have hj:b.size≤a.size:=by omega
 clear h;go_enter Tryz.func146, Tryz.ntmps146;go_wp2;go_ret;exact ⟨rfl,rfl⟩
theorem zjU (w:World) (a b:Nat):Calls Tryz.prog 146 #[.string (zj a),.string (zj b)] w fun e w'=>e = .returned (.int .i64 (qH a b))∧w=w':=by
 rcases Nat.lt_trichotomy (zB a) (zB b) with h | h | h
 ·have hlt:a<b:=Nat.lt_of_not_le fun h2=>by have:=yz h2;omega
  unfold qH;rw [if_pos hlt];exact zli w _ _ (by rw [qO,qO];exact h)
 ·have hs:(zj a).size=(zj b).size:=by rw [qO,qO];exact h
  have hl:=zks a b h;rw [← zch,← zch] at hl;rcases Nat.lt_trichotomy a b with h1 | h1 | h1
  ·unfold qH;rw [if_pos h1];exact gL w _ _ hs (by rw [hl];exact decide_eq_true h1)
  ·subst h1;unfold qH;rw [if_neg (Nat.lt_irrefl _),if_pos rfl];exact rcmp_eq w _ (by rw [hl];exact decide_eq_false (Nat.lt_irrefl _))
  ·unfold qH;rw [if_neg (by omega),if_neg (by omega)];exact rcmp_gt w _ _ hs (by rw [hl];exact decide_eq_false (by omega)) (fun e=>by have:=zfS e;omega)
 ·have hlt:b<a:=Nat.lt_of_not_le fun h2=>by have:=yz h2;omega
  unfold qH;rw [if_neg (by omega),if_neg (by omega)];exact xZ w _ _ (by rw [qO,qO];exact h) (fun e=>by have:=zfS e;omega)
end Go.Proofs.YtoljkoifgnmbgaaGreatDoor
end
section
open Go Go.RowKit Cs
namespace Cs
theorem half_dg (a i:Nat):(10*(a / 10^(i+1)%2)+dg 10 a i) / 2=dg 10 (a / 2) i∧(10*(a / 10^(i+1)%2)+dg 10 a i)%2=a / 10^i%2:=by
 have e1:a / 10^(i+1)=a / 10^i / 10:=by rw [Nat.pow_succ,Nat.div_div_eq_div_mul]
 have e2:a / 2 / 10^i=a / 10^i / 2:=by rw [Nat.div_div_eq_div_mul,Nat.div_div_eq_div_mul,Nat.mul_comm]
 unfold dg;rw [e1,e2];generalize a / 10^i=x;omega
theorem nd2_half (a:Nat) (h:a≠0):nd 2 a=nd 2 (a / 2)+1:=by
 rw [zg9 2 a (by decide) (by omega),Nat.add_comm]
theorem zfL (a:Nat):a<10^zB a:=Nat.lt_of_lt_of_le (jE 10 a (by decide)) (Nat.pow_le_pow_right (by decide) (gu a))
theorem od (a m:Nat) (ha:zB a≤m):nd 2 a≤4*m:=by
 refine (yh 2 (by decide) _ _).2 ?_;refine Nat.lt_of_lt_of_le (zfL a) ?_;refine Nat.le_trans (Nat.pow_le_pow_left (show 10≤2^4 by decide) _) ?_;rw [← Nat.pow_mul];exact Nat.pow_le_pow_right (by decide) (by omega)
end Cs
namespace Go.Proofs.YtoljkoifgnmbgaaGreatDoor
theorem rsub_any (w:World) (a b:Nat) (ha:zB a≤10000000) (hb:zB b≤10000000) (hab:b≤a) :
  Calls Tryz.prog 147 #[.string (zj a),.string (zj b)] w fun e w'=>e = .returned (.tuple #[.string (zj (a-b)),.bool true])∧Below w.heap.size w w':=by
 obtain ⟨ti,hi,hz0,hz1,hz2⟩:=info_parts zd2;have hsa:=qO a;have hna:=gu a;have h1a:=zce a;have hda:=fun W i hi=>zbx W a i (by omega) hi;have hdb:=fun W i hi=>zbx W b i (by omega) hi;have hcm:=fun W=>zjU W a b;have hM:decide (qH a b<0)=false:=decide_eq_false (by unfold qH;split <;> (try split) <;> omega);have hfm:=fun W A n cap h0 h1 h2 h3=>zd3 W A n cap (a-b) h0 h1 h2 h3;have hnd:=sub_nd a b;obtain ⟨M,hM'⟩:∃ M,qH a b=M:=⟨_,rfl⟩;rw [hM'] at hcm hM;obtain ⟨sa,hsa'⟩:∃ s,s=zj a:=⟨_,rfl⟩;obtain ⟨sb,hsb'⟩:∃ s,s=zj b:=⟨_,rfl⟩;rw [← hsa'] at hsa hda hcm ⊢;rw [← hsb'] at hdb hcm ⊢;clear hsa' hsb' hM';have HDA:=za hda;have HDB:=za hdb;have HF:=za hfm;have HCM:=za hcm;clear hda hdb hfm hcm;have hza:sa.size≤10000000:=by omega
 have hz1a:1≤sa.size:=by omega
 have hna':nd 10 (a-b)≤sa.size:=by omega
 clear ha hb hsa hna h1a hnd;go_enter Tryz.func147, Tryz.ntmps147;go_wp2_with (go_at_call 146;(with_reducible refine (HCM.out _).mono ?_);rintro e w' ⟨rfl,rfl⟩)
 go_loopw [6,7,8,9] (fun l c i d wr=>∃ k:Nat,k≤sa.size∧i = .int .i64 k∧c = .int .i64 (jo a b k)∧wr.ownsRow w.heap.size 3 1 l k (dgi (a-b) k)∧Below w.heap.size w wr)
  (fun _ _ i _ _=>sa.size-(intOf i).toNat)
 case atStart=>exact ⟨0,by omega,rfl,by rw [brw_zero];rfl,World.ownsRow_nil _ _ _ _,zA _ _⟩
 case round =>
  obtain ⟨k,hk,rfl,rfl,hown,hbel⟩:=hrel;have hszw:=hbel.size;have hc1:=brw_le a b k;have da:=y9 a k;have db:=y9 b k;have hdg:=sub_dg a b k hab;have hcs:=brw_succ a b k;have hlt0:∀ k,u6.ownBlock=some k→w.heap.size≤k:=fun k hk=>(hown.lt k hk).1;rcases Nat.lt_or_ge k sa.size with h1 | h1
  ·rcases Nat.lt_or_ge (dg 10 a k) (dg 10 b k+jo a b k) with h2 | h2
   ·rw [if_pos h2] at hcs;have X1:Hid ((dg 10 a k:Int)-(dg 10 b k:Int)-(jo a b k:Int)+10=((dg 10 (a-b) k:Nat):Int)):=by
     show _=_;omega
    have HCS:=za hcs;have h3:decide ((dg 10 a k:Int)-(dg 10 b k:Int)-(jo a b k:Int)<0)=true:=decide_eq_true (by omega);clear hcs hdg h2;go_wp2_with (first
     | (go_at_call 145;(with_reducible refine (HDA.out _ k (by omega)).mono ?_);rintro e w' ⟨rfl,rfl⟩)
     | (go_at_call 145;(with_reducible refine (HDB.out _ k (by omega)).mono ?_);rintro e w' ⟨rfl,rfl⟩)
     | (at_builtin;go_loud (refine wpList_append_own _ rfl _ _ 52 rfl w.heap.size 3 ti (.int .i64 0) 1 8 Tryz.underlying52 hi hz0 hz1 hz2 rfl (by decide) _ _ _ rfl (hown.alloc _) ⟨wr.heap.size,0,none⟩ 1 1 [.int .i64 ((dg 10 a k:Int)-(dg 10 b k:Int)-(jo a b k:Int)+10)] rfl rfl qR zcL (by unfold maxLen;omega) (by omega) (by simp;omega) ?_);intro v3 w3 hown3 hgr3 _))
    have hbel3:=(hbel.alloc hbel.size _).grown hgr3 (by simp;omega) (fun k e=>hlt0 k e);rw [X1.out,← zfg] at hown3;go_roundw
    case rel=>exact ⟨k+1,by omega,by go_num,by rw [HCS.out];rfl,hown3,hbel3⟩
    case measure=>simp [intOf];omega
   ·rw [if_neg (by omega)] at hcs;have X1:Hid ((dg 10 a k:Int)-(dg 10 b k:Int)-(jo a b k:Int)=((dg 10 (a-b) k:Nat):Int)):=by
     show _=_;omega
    have HCS:=za hcs;have h3:decide ((dg 10 a k:Int)-(dg 10 b k:Int)-(jo a b k:Int)<0)=false:=decide_eq_false (by omega);clear hcs hdg h2;go_wp2_with (first
     | (go_at_call 145;(with_reducible refine (HDA.out _ k (by omega)).mono ?_);rintro e w' ⟨rfl,rfl⟩)
     | (go_at_call 145;(with_reducible refine (HDB.out _ k (by omega)).mono ?_);rintro e w' ⟨rfl,rfl⟩)
     | (at_builtin;go_loud (refine wpList_append_own _ rfl _ _ 52 rfl w.heap.size 3 ti (.int .i64 0) 1 8 Tryz.underlying52 hi hz0 hz1 hz2 rfl (by decide) _ _ _ rfl (hown.alloc _) ⟨wr.heap.size,0,none⟩ 1 1 [.int .i64 ((dg 10 a k:Int)-(dg 10 b k:Int)-(jo a b k:Int))] rfl rfl qR zcL (by unfold maxLen;omega) (by omega) (by simp;omega) ?_);intro v3 w3 hown3 hgr3 _))
    have hbel3:=(hbel.alloc hbel.size _).grown hgr3 (by simp;omega) (fun k e=>hlt0 k e);rw [X1.out,← zfg] at hown3;go_roundw
    case rel=>exact ⟨k+1,by omega,by go_num,by rw [HCS.out];rfl,hown3,hbel3⟩
    case measure=>simp [intOf];omega
  ·obtain rfl:k=sa.size:=by omega
   obtain ⟨go',cp,rfl,hgo1,hgo2⟩:=yO hown (by omega);have hrd:Rd wr wr.heap.size (some ⟨go',0,none⟩) sa.size (yA (a-b)):=Rd.of_own hown fun i hi=>zj0 _ _ _ hi;have HR:=za hrd;have HNA:=za hna';clear hrd hown hdg hcs hna';go_wp2_with (go_at_call 148;(with_reducible refine (HF.out _ _ sa.size cp hz1a (by omega) HNA.out HR.out).mono ?_);rintro e w' ⟨rfl,hb9⟩)
   go_ret2;exact ⟨rfl,zu hbel hb9 hszw⟩
theorem xX (w:World) (a:Nat) (ha:zB a≤10000000) :
  Calls Tryz.prog 141 #[.string (zj a)] w fun e w'=>e = .returned (.string (zj (a / 2)))∧Below w.heap.size w w':=by
 have hsa:=qO a;have hna:=gu a;have h1a:=zce a;have hda:=fun W i hi=>zbx W a i (by omega) hi;have hfm:=fun W A n cap h0 h1 h2 h3=>zd3 W A n cap (a / 2) h0 h1 h2 h3;have hnd:=div_nd a 2;have hz2:a / 10^zB a=0:=Nat.div_eq_of_lt (zfL a);obtain ⟨sa,hsa'⟩:∃ s,s=zj a:=⟨_,rfl⟩;rw [← hsa'] at hsa hda ⊢;rw [← hsa] at hz2;clear hsa';have hmk:=zje sa.size (by omega);have HDA:=za hda;have HF:=za hfm;have HZ2:=za hz2;clear hda hfm hz2;have hza:sa.size≤10000000:=by omega
 have hz1a:1≤sa.size:=by omega
 have hna':nd 10 (a / 2)≤sa.size:=by omega
 have HNA:=za hna';clear ha hsa hna h1a hnd hna';go_enter Tryz.func141, Tryz.ntmps141;go_wp2;go_loopw [4,5,6] (fun r i d wr=>∃ k:Nat,k≤sa.size∧i = .int .i64 ((k:Int)-1)∧r = .int .i64 ((a / 10^k%2:Nat):Int)∧wr.rowIs w.heap.size 3 sa.size (fun j=>if k≤j then yA (a / 2) j else .int .i64 0)∧Below w.heap.size w wr)
  (fun _ i _ _=>(intOf i+1).toNat)
 case atStart=>exact ⟨sa.size,zi _,rfl,by rw [HZ2.out];rfl,jz w (.int .i64 0) sa.size 3 _ rfl (fun i hi=>by rw [if_neg (by omega)]),(zA _ _).alloc (zi _) _⟩
 case round =>
  obtain ⟨k,hk,rfl,rfl,hrow,hbel⟩:=hrel;rcases Nat.eq_zero_or_pos k with h0 | h0
  ·subst h0;have hrd:Rd wr wr.heap.size (some ⟨w.heap.size,0,none⟩) sa.size (yA (a / 2)):=Rd.of_row (hrow.congr fun i hi=>by rw [if_pos (by omega)]) (zi _) hrow.lt;have HR:=za hrd;have hbl:=hbel.size;clear hrd hmk hrow;go_wp2_with (go_at_call 148;(with_reducible refine (HF.out _ _ sa.size sa.size hz1a (by omega) HNA.out HR.out).mono ?_);rintro e w' ⟨rfl,hb9⟩)
   go_ret;exact ⟨rfl,zu hbel hb9 hbl⟩
  ·obtain ⟨m,rfl⟩:∃ m,k=m+1:=⟨k-1,by omega⟩;have da:=y9 a m;obtain ⟨hd1,hd2⟩:=half_dg a m;have hcell:=hrow.cell (i:=m) (by omega);have hfr:=hrow.frozen m;have hrl:=Nat.mod_lt (a / 10^(m+1)) (show 2 > 0 by decide);have hset:=hrow.set m (yA (a / 2) m);have hset2:(wr.setCell ⟨w.heap.size,m,none⟩ (.int .i64 ((dg 10 (a / 2) m:Nat):Int))).rowIs w.heap.size 3 sa.size (fun j=>if m≤j then yA (a / 2) j else .int .i64 0):=hset.congr fun i hi=>by
    by_cases e:i=m
    ·rw [if_pos e,if_pos (by omega),e]
    ·rw [if_neg e];by_cases e2:m+1≤i
     ·rw [if_pos e2,if_pos (by omega)]
     ·rw [if_neg e2,if_neg (by omega)]
   have HS2:=za hset2;obtain ⟨r,hr⟩:∃ r,a / 10^(m+1)%2=r:=⟨_,rfl⟩;obtain ⟨r',hr'⟩:∃ r,a / 10^m%2=r:=⟨_,rfl⟩;obtain ⟨x,hx⟩:∃ x,dg 10 a m=x:=⟨_,rfl⟩;obtain ⟨y,hy⟩:∃ y,dg 10 (a / 2) m=y:=⟨_,rfl⟩;have hd:=HDA.out;have hdm:=fun W=>hd W m (by omega);rw [hx] at hdm da hd1 hd2;rw [hr] at hd1 hd2 hrl ⊢;rw [hy] at hd1 HS2;rw [hr'] at hd2;have Y1:(10*(r:Int)+(x:Int)) / 2=(y:Int):=by omega
   have Y2:(10*(r:Int)+(x:Int))%2=(r':Int):=by omega
   have HR':=za hr';have HDM:=za hdm;have e0:((m:Int)+1)-1=(m:Int):=by omega
   have hcell2:wr.cell? ⟨w.heap.size,m,none⟩=some (.int .i64 0):=hcell.trans (by rw [if_neg (by omega)]);have hi1:(m:Int)<(sa.size:Int):=by omega
   have hi2:m<sa.size:=by omega
   rw [show (((m+1:Nat):Int)-1)=(m:Int) by omega];clear hd hdm hr hr' hx hy hd1 hd2 hset hset2 hcell hmk e0;go_wp2_with (go_at_call 145;(with_reducible refine (HDM.out _).mono ?_);rintro e w' ⟨rfl,rfl⟩)
   go_roundw
   case rel=>exact ⟨m,by omega,rfl,by rw [HR'.out,Y2],HS2.out,hbel.setCell (by simp) _⟩
   case measure=>simp [intOf] <;> omega
theorem zeR (w:World) (a:Nat) (ha:zB a≤10000000) :
  Calls Tryz.prog 98 #[.string (zj a)] w fun e w'=>e = .returned (.int .i64 (nd 2 a:Nat))∧Below w.heap.size w w':=by
 have hb:=od a 10000000 ha;go_enter Tryz.func98, Tryz.ntmps98;go_wp2;go_loopw [0,3] (fun s n wr=>∃ k x:Nat,s = .string (zj x)∧n = .int .i64 k∧x≤a∧Hid (k+nd 2 x=nd 2 a)∧Below w.heap.size w wr) (fun _ n _=>nd 2 a-(intOf n).toNat)
 case atStart=>exact ⟨0,a,rfl,rfl,zi _,Nat.zero_add _,zA _ _⟩
 case round =>
  obtain ⟨k,x,rfl,rfl,hxa,HK,hbel⟩:=hrel;have h0:=zdH x;have hk:=HK.out;by_cases hx0:x=0
  ·have hd:(zj x).toList=[48]:=h0.2 hx0;have hkk:k=nd 2 a:=by rw [hx0,zbT] at hk;omega
   have HKK:=za hkk;clear h0 hk hkk hx0 hb ha hxa HK;generalize zj x=s at *
   go_wp2;go_ret;exact ⟨zhh (by rw [HKK.out]),hbel⟩
  ·have hd:¬ (zj x).toList=[48]:=fun h=>hx0 (h0.1 h);have hd2:((zj x).toList==[48])=false:=beq_eq_false_iff_ne.2 hd;have hhf:=fun W=>xX W x (Nat.le_trans (yz hxa) ha);have HHF:=za hhf;have hn2:=nd2_half x hx0;have hk3:k+1≤nd 2 a:=by omega
   have HN:=za (show (k+1)+nd 2 (x / 2)=nd 2 a by omega);have hxx:x / 2≤a:=by omega
   clear h0 hk hx0 hhf hn2 HK;generalize nd 2 a=m at *
   generalize zj x=s at *
   go_wp2_with (go_at_call 141;(with_reducible refine (HHF.out _).mono ?_);rintro e w3 ⟨rfl,hb3⟩)
   go_roundw
   case rel=>exact ⟨k+1,x / 2,rfl,by go_num,hxx,HN,zu hbel hb3 hbel.size⟩
   case measure=>simp [intOf];omega
end Go.Proofs.YtoljkoifgnmbgaaGreatDoor
end
end
