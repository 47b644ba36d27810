import Derived.Test.YtmhllppjcilllaaGreatDoorBy
import Derived.Test.YtmhllppjcilllaaGreatDoorNr
import Derived.Test.YtmhllppjcilllaaGreatDoorZa
set_option linter.unusedSimpArgs false
set_option linter.unusedVariables false
set_option maxRecDepth 100000
set_option maxHeartbeats 8000000
open Go Go.RowKit Cs
namespace Cs
def smpN:Nt:=⟨3,[⟨2,-1,[]⟩,⟨2,2,[]⟩,⟨3,0,[0,1]⟩,⟨2,1,[]⟩,⟨2,3,[]⟩,⟨3,0,[3,4]⟩,⟨4,0,[2,5]⟩]⟩
def smpNA (b2 b5 b6:Nat):Array Value:=#[.int .i64 2,.int .i64 (-1),.slice none 0 0,.int .i64 2,.int .i64 2,.slice none 0 0,.int .i64 3,.int .i64 0,.slice (some ⟨b2,0,none⟩) 2 2,.int .i64 2,.int .i64 1,.slice none 0 0,.int .i64 2,.int .i64 3,.slice none 0 0,.int .i64 3,.int .i64 0,.slice (some ⟨b5,0,none⟩) 2 2,.int .i64 4,.int .i64 0,.slice (some ⟨b6,0,none⟩) 2 2]
theorem smpN_at {w:World} {B g b2 b5 b6:Nat} {t:TypeId} {s:TypeId} (hg:g<B) (h2:b2<B) (r2:w.rowIs b2 s 2 (arrF #[.int .i64 0,.int .i64 1])) (h5:b5<B) (r5:w.rowIs b5 s 2 (arrF #[.int .i64 3,.int .i64 4])) (h6:b6<B) (r6:w.rowIs b6 s 2 (arrF #[.int .i64 2,.int .i64 5])) (hr:w.rowIs g t 21 (arrF (smpNA b2 b5 b6))):NtAt w B (some ⟨g,0,none⟩) smpN.l:=fun _=>by
 refine ⟨g,0,rfl,hg,fun i hi=>?_⟩
 match i,hi with
 | 0,_=>exact ⟨hr.cell (i:=0) (by decide),hr.cell (i:=1) (by decide),⟨none,0,hr.cell (i:=2) (by decide),Rd.zero _ _ _ _⟩,(show r64 (2) by unfold r64;decide),(show r64 (-1) by unfold r64;decide),(show ∀ i∈([]:List Int),r64 i by unfold r64;decide),(show ([]:List Int).length≤140737488355328 by decide)⟩
 | 1,_=>exact ⟨hr.cell (i:=3) (by decide),hr.cell (i:=4) (by decide),⟨none,0,hr.cell (i:=5) (by decide),Rd.zero _ _ _ _⟩,(show r64 (2) by unfold r64;decide),(show r64 (2) by unfold r64;decide),(show ∀ i∈([]:List Int),r64 i by unfold r64;decide),(show ([]:List Int).length≤140737488355328 by decide)⟩
 | 2,_=>exact ⟨hr.cell (i:=6) (by decide),hr.cell (i:=7) (by decide),⟨some ⟨b2,0,none⟩,2,hr.cell (i:=8) (by decide),Rd.of_row (r2.congr fun j hj=>by
    match j,hj with
    | 0,_=>rfl
    | 1,_=>rfl
    ) (zqn _) h2⟩,(show r64 (3) by unfold r64;decide),(show r64 (0) by unfold r64;decide),(show ∀ i∈([0,1]:List Int),r64 i by unfold r64;decide),(show ([0,1]:List Int).length≤140737488355328 by decide)⟩
 | 3,_=>exact ⟨hr.cell (i:=9) (by decide),hr.cell (i:=10) (by decide),⟨none,0,hr.cell (i:=11) (by decide),Rd.zero _ _ _ _⟩,(show r64 (2) by unfold r64;decide),(show r64 (1) by unfold r64;decide),(show ∀ i∈([]:List Int),r64 i by unfold r64;decide),(show ([]:List Int).length≤140737488355328 by decide)⟩
 | 4,_=>exact ⟨hr.cell (i:=12) (by decide),hr.cell (i:=13) (by decide),⟨none,0,hr.cell (i:=14) (by decide),Rd.zero _ _ _ _⟩,(show r64 (2) by unfold r64;decide),(show r64 (3) by unfold r64;decide),(show ∀ i∈([]:List Int),r64 i by unfold r64;decide),(show ([]:List Int).length≤140737488355328 by decide)⟩
 | 5,_=>exact ⟨hr.cell (i:=15) (by decide),hr.cell (i:=16) (by decide),⟨some ⟨b5,0,none⟩,2,hr.cell (i:=17) (by decide),Rd.of_row (r5.congr fun j hj=>by
    match j,hj with
    | 0,_=>rfl
    | 1,_=>rfl
    ) (zqn _) h5⟩,(show r64 (3) by unfold r64;decide),(show r64 (0) by unfold r64;decide),(show ∀ i∈([3,4]:List Int),r64 i by unfold r64;decide),(show ([3,4]:List Int).length≤140737488355328 by decide)⟩
 | 6,_=>exact ⟨hr.cell (i:=18) (by decide),hr.cell (i:=19) (by decide),⟨some ⟨b6,0,none⟩,2,hr.cell (i:=20) (by decide),Rd.of_row (r6.congr fun j hj=>by
    match j,hj with
    | 0,_=>rfl
    | 1,_=>rfl
    ) (zqn _) h6⟩,(show r64 (4) by unfold r64;decide),(show r64 (0) by unfold r64;decide),(show ∀ i∈([2,5]:List Int),r64 i by unfold r64;decide),(show ([2,5]:List Int).length≤140737488355328 by decide)⟩
def smpL:List Pr:=[(0,1),(1,3),(1,2),(1,1)]
def smpH:List Pr:=[(0,1),(2,3),(1,2),(3,1)]
end Cs
namespace Go.Proofs.YtmhllppjcilllaaGreatDoor
theorem qlof_any (w:World) (n d:Nat) (hn:n<18446744073709551616) (hd:d<18446744073709551616) (h0:0<d) :
  Calls Tryz.prog 29 #[.int .u64 n,.int .u64 d] w fun e w'=>e = .returned (ratV (qn (qq n d)) (qq n d).den)∧Below w.heap.size w w':=by
 have hq:=fun W=>qof_any W n d hn hd h0
 generalize qn (qq n d)=N at *
 generalize (qq n d).den=D at *
 have HQ:=zqh hq;clear hq hn hd h0;have q0:=(Bag.zero w).new #[.string ⟨#[]⟩,.string ⟨#[]⟩] 33 w.heap.size 2 rfl rfl
 go_enter Tryz.func29, Tryz.ntmps29
 go_wp2_with (
  go_at_call 55
  (with_reducible refine (HQ.out _).mono ?_)
  rintro e w1 ⟨rfl,hb1⟩;have q1:=(q0.below hb1).new #[.string (natB N),.string (natB D)] 33 w1.heap.size 2 rfl rfl;have hr:=q1.rows (w.heap.size, 33,2,#[.string ⟨#[]⟩,.string ⟨#[]⟩]) (by simp);have y1:=hr.frozen 0;have y2:=hr.frozen 1;have z1:(w1.alloc (.cells #[.string (natB N),.string (natB D)] 33)).cell? ⟨w.heap.size,0,none⟩=some (.string ⟨#[]⟩):=hr.cell (i:=0) (by simp)
  have z2:(w1.alloc (.cells #[.string (natB N),.string (natB D)] 33)).cell? ⟨w.heap.size,1,none⟩=some (.string ⟨#[]⟩):=hr.cell (i:=1) (by simp))
 exact ret_rat rfl N D rfl ((pairRow hr (.string (natB N)) (.string (natB D))).congr (ratF_arr N D)) rfl ⟨rfl,(q1.bl.setCell (p:=⟨w.heap.size,0,none⟩) (zqn _) _).setCell (p:=⟨w.heap.size,1,none⟩) (zqn _) _⟩
theorem of01_any (w:World):Calls Tryz.prog 29 #[.int .u64 0,.int .u64 1] w fun e w'=>e = .returned (ratV 0 1)∧Below w.heap.size w w':=by
 have h:=qlof_any w 0 1 (by decide) (by decide) (by decide);rw [show qn (qq 0 1)=0 by decide +kernel,show (qq 0 1).den=1 by decide +kernel] at h;exact h
theorem of11_any (w:World):Calls Tryz.prog 29 #[.int .u64 1,.int .u64 1] w fun e w'=>e = .returned (ratV 1 1)∧Below w.heap.size w w':=by
 have h:=qlof_any w 1 1 (by decide) (by decide) (by decide);rw [show qn (qq 1 1)=1 by decide +kernel,show (qq 1 1).den=1 by decide +kernel] at h;exact h
theorem of12_any (w:World):Calls Tryz.prog 29 #[.int .u64 1,.int .u64 2] w fun e w'=>e = .returned (ratV 1 2)∧Below w.heap.size w w':=by
 have h:=qlof_any w 1 2 (by decide) (by decide) (by decide);rw [show qn (qq 1 2)=1 by decide +kernel,show (qq 1 2).den=2 by decide +kernel] at h;exact h
theorem of13_any (w:World):Calls Tryz.prog 29 #[.int .u64 1,.int .u64 3] w fun e w'=>e = .returned (ratV 1 3)∧Below w.heap.size w w':=by
 have h:=qlof_any w 1 3 (by decide) (by decide) (by decide);rw [show qn (qq 1 3)=1 by decide +kernel,show (qq 1 3).den=3 by decide +kernel] at h;exact h
theorem of23_any (w:World):Calls Tryz.prog 29 #[.int .u64 2,.int .u64 3] w fun e w'=>e = .returned (ratV 2 3)∧Below w.heap.size w w':=by
 have h:=qlof_any w 2 3 (by decide) (by decide) (by decide);rw [show qn (qq 2 3)=2 by decide +kernel,show (qq 2 3).den=3 by decide +kernel] at h;exact h
theorem of31_any (w:World):Calls Tryz.prog 29 #[.int .u64 3,.int .u64 1] w fun e w'=>e = .returned (ratV 3 1)∧Below w.heap.size w w':=by
 have h:=qlof_any w 3 1 (by decide) (by decide) (by decide);rw [show qn (qq 3 1)=3 by decide +kernel,show (qq 3 1).den=1 by decide +kernel] at h;exact h
theorem size_node:(Tryz.prog.info? 66).map (·.size)=some 3:=by kernel_rfl
theorem size_net':(Tryz.prog.info? 24).map (·.size)=some 2:=by kernel_rfl
theorem lit_any (w:World) (l:Int):Calls Tryz.prog 42 #[.int .i64 l] w fun e w'=>e = .returned (.agg #[.int .i64 2,.int .i64 l,.slice none 0 0])∧Below w.heap.size w w':=by
 have r0:=arrNew w #[.int .i64 2,.int .i64 l,.slice none 0 0] 66 w.heap.size 3 rfl rfl
 go_enter Tryz.func42, Tryz.ntmps42
 go_wp2_with fail
 refine bodyPost_ret (v:=.agg #[.int .i64 2,.int .i64 l,.slice none 0 0]) ?_ rfl ⟨rfl,(zqr _ _).alloc (zqn _) _⟩;exact results_cell_row rfl _ _ w.heap.size 66 _ (0,0) _ rfl (heap_alloc_new _ _) Tryz.underlying66 rfl (by simpa using size_node)
theorem results_cells2 {fn:Func} {p q:Tmp} {ty tz:TypeId} (h:fn.results=#[.cell p ty,.cell q tz]) (tmps:Array Value) (P:Program) (w:World) :
  (results fn tmps).run P w=((asAddr (tmps.getD p undef)).run P w).andThen fun a w₁=>((loadVar ty a).run P w₁).andThen fun x w₂=>((asAddr (tmps.getD q undef)).run P w₂).andThen fun b w₃=>((loadVar tz b).run P w₃).andThen fun y w₄=>.ok (.tuple #[x,y]) w₄:=by
 simp only [results,h];simp [Sem.run_bind,Result.andThen]
structure SmpR (W:World) (gn b2 b5 b6:Nat):Prop where
 r2:W.rowIs b2 3 2 (arrF #[.int .i64 0,.int .i64 1])
 r5:W.rowIs b5 3 2 (arrF #[.int .i64 3,.int .i64 4])
 r6:W.rowIs b6 3 2 (arrF #[.int .i64 2,.int .i64 5])
 rn:W.rowIs gn 66 21 (arrF (smpNA b2 b5 b6))
theorem SmpR.below {W W':World} {gn b2 b5 b6:Nat} (h:SmpR W gn b2 b5 b6) (hb:Below W.heap.size W W'):SmpR W' gn b2 b5 b6:=⟨rowBelow h.r2 hb,rowBelow h.r5 hb,rowBelow h.r6 hb,rowBelow h.rn hb⟩
theorem SmpR.other {W:World} {gn b2 b5 b6 g i:Nat} {v:Value} (h:SmpR W gn b2 b5 b6) (h2:b2≠g) (h5:b5≠g) (h6:b6≠g) (hn:gn≠g):SmpR (W.setCell ⟨g,i,none⟩ v) gn b2 b5 b6:=⟨h.r2.setOther h2 _,h.r5.setOther h5 _,h.r6.setOther h6 _,h.rn.setOther hn _⟩
theorem SmpR.nt {W:World} {gn b2 b5 b6:Nat} (h:SmpR W gn b2 b5 b6):NtAt W W.heap.size (some ⟨gn,0,none⟩) smpN.l:=smpN_at h.rn.lt h.r2.lt h.r2 h.r5.lt h.r5 h.r6.lt h.r6 h.rn
structure SmZ (w wc:World) (gn b2 b5 b6:Nat) (f1 f2:Array Value) (W:World):Prop where
 bl:Below w.heap.size w W
 sm:SmpR W gn b2 b5 b6
 bs:w.heap.size+1<b2∧w.heap.size+1<b5∧w.heap.size+1<b6∧w.heap.size+1<gn
 r1:W.rowIs w.heap.size 24 2 (arrF f1)
 r2:W.rowIs (w.heap.size+1) 39 2 (arrF f2)
 lt:w.heap.size+1<wc.heap.size
 le:wc.heap.size≤W.heap.size
section
variable {w wc W:World} {gn b2 b5 b6:Nat} {f1 f2:Array Value}
theorem SmZ.n1 (h:SmZ w wc gn b2 b5 b6 f1 f2 W) {X:Nat} (hX:wc.heap.size≤X):X≠w.heap.size:=by have:=h.lt;omega
theorem SmZ.n2 (h:SmZ w wc gn b2 b5 b6 f1 f2 W) {X:Nat} (hX:wc.heap.size≤X):X≠w.heap.size+1:=by have:=h.lt;omega
theorem rowTwo {V:World} {X g n:Nat} {t:TypeId} {f:Nat→Value} (h:V.rowIs X t n f) (hX:X≠g) (x y:Value):((V.setCell ⟨g,0,none⟩ x).setCell ⟨g,1,none⟩ y).rowIs X t n f:=(h.setOther (a:=⟨g,0,none⟩) hX x).setOther (a:=⟨g,1,none⟩) hX y
theorem SmZ.alloc (h:SmZ w wc gn b2 b5 b6 f1 f2 W) (o:Obj):SmZ w wc gn b2 b5 b6 f1 f2 (W.alloc o) :=
 ⟨h.bl.alloc h.bl.size o,h.sm.below ((zqr _ _).alloc (zqn _) o),h.bs,h.r1.alloc o,h.r2.alloc o,h.lt,Nat.le_trans h.le (by simp)⟩
theorem SmZ.put1 (h:SmZ w wc gn b2 b5 b6 f1 f2 W) (x y:Value):SmZ w wc gn b2 b5 b6 #[x,y] f2 ((W.setCell ⟨w.heap.size,0,none⟩ x).setCell ⟨w.heap.size,1,none⟩ y) :=
 ⟨(h.bl.setCell (p:=⟨w.heap.size,0,none⟩) (zqn _) _).setCell (p:=⟨w.heap.size,1,none⟩) (zqn _) _,
  (h.sm.other (by have:=h.bs;omega) (by have:=h.bs;omega) (by have:=h.bs;omega) (by have:=h.bs;omega)).other (by have:=h.bs;omega) (by have:=h.bs;omega) (by have:=h.bs;omega) (by have:=h.bs;omega),
  h.bs,pairRow h.r1 x y,(h.r2.setOther (show w.heap.size+1≠w.heap.size by omega) _).setOther (show w.heap.size+1≠w.heap.size by omega) _,h.lt,by rw [size_setCell,size_setCell];exact h.le⟩
theorem SmZ.put2 (h:SmZ w wc gn b2 b5 b6 f1 f2 W) (x y:Value):SmZ w wc gn b2 b5 b6 f1 #[x,y] ((W.setCell ⟨w.heap.size+1,0,none⟩ x).setCell ⟨w.heap.size+1,1,none⟩ y) :=
 ⟨(h.bl.setCell (p:=⟨w.heap.size+1,0,none⟩) (Nat.le_succ _) _).setCell (p:=⟨w.heap.size+1,1,none⟩) (Nat.le_succ _) _,
  (h.sm.other (by have:=h.bs;omega) (by have:=h.bs;omega) (by have:=h.bs;omega) (by have:=h.bs;omega)).other (by have:=h.bs;omega) (by have:=h.bs;omega) (by have:=h.bs;omega) (by have:=h.bs;omega),
  h.bs,(h.r1.setOther (show w.heap.size≠w.heap.size+1 by omega) _).setOther (show w.heap.size≠w.heap.size+1 by omega) _,pairRow h.r2 x y,h.lt,by rw [size_setCell,size_setCell];exact h.le⟩
end
theorem bs8 {p:List Bool→Prop} (h0:p [false,false,false]) (h1:p [false,false,true]) (h2:p [false,true,false]) (h3:p [false,true,true]) (h4:p [true,false,false]) (h5:p [true,false,true]) (h6:p [true,true,false]) (h7:p [true,true,true]):∀ bs:List Bool,bs.length=3→p bs
 | [false,false,false],_=>h0
 | [false,false,true],_=>h1
 | [false,true,false],_=>h2
 | [false,true,true],_=>h3
 | [true,false,false],_=>h4
 | [true,false,true],_=>h5
 | [true,true,false],_=>h6
 | [true,true,true],_=>h7
section
variable {P:Program} {md:Region.Mode} {ops:Array Oper} {Q:Exit→Act→World→Prop}
theorem wpAny_three3 (i j m:Nat) {o p q:Oper} {fuel:Nat} {listed:Array Bool} {a:Act} {w:World} (hr:Region.ready md ops listed=[i,j,m]) (ho:ops[i]?=some o) (hp:ops[j]?=some p) (hq:ops[m]?=some q)
  (h:∀ K':Act→World→Prop,Shut (∀ a w,wpAny P md ops Q fuel (listed.setIfInBounds i true) a w→K' a w)→if Region.wanted o (yielded ops a.tmps)=true then Oper.wp P o a w K' Q else K' (a.put o.dst undef) w)
  (h2:∀ K':Act→World→Prop,Shut (∀ a w,wpAny P md ops Q fuel (listed.setIfInBounds j true) a w→K' a w)→if Region.wanted p (yielded ops a.tmps)=true then Oper.wp P p a w K' Q else K' (a.put p.dst undef) w)
  (h3:∀ K':Act→World→Prop,Shut (∀ a w,wpAny P md ops Q fuel (listed.setIfInBounds m true) a w→K' a w)→if Region.wanted q (yielded ops a.tmps)=true then Oper.wp P q a w K' Q else K' (a.put q.dst undef) w) :
  wpAny P md ops Q (fuel+1) listed a w :=
 ⟨fun h0=>(by rw [hr] at h0;cases h0),fun k hk=>by
   rw [hr] at hk;rcases List.mem_cons.1 hk with rfl | hk
   ·exact wpOp_step ho fun K' hK=>h K' fun a w hW=>hK a w hW
   ·rcases List.mem_cons.1 hk with rfl | hk
    ·exact wpOp_step hp fun K' hK=>h2 K' fun a w hW=>hK a w hW
    ·obtain rfl:=List.mem_singleton.1 hk
     exact wpOp_step hq fun K' hK=>h3 K' fun a w hW=>hK a w hW⟩
end
theorem smpL_row:∀ i,i<8→arrF #[.string (natB 0),.string (natB 1),.string (natB 1),.string (natB 3),.string (natB 1),.string (natB 2),.string (natB 1),.string (natB 1)] i=prsF smpL i:=fun i hi=>by
 match i,hi with
 | 0,_=>rfl
 | 1,_=>rfl
 | 2,_=>rfl
 | 3,_=>rfl
 | 4,_=>rfl
 | 5,_=>rfl
 | 6,_=>rfl
 | 7,_=>rfl
theorem smpH_row:∀ i,i<8→arrF #[.string (natB 0),.string (natB 1),.string (natB 2),.string (natB 3),.string (natB 1),.string (natB 2),.string (natB 3),.string (natB 1)] i=prsF smpH i:=fun i hi=>by
 match i,hi with
 | 0,_=>rfl
 | 1,_=>rfl
 | 2,_=>rfl
 | 3,_=>rfl
 | 4,_=>rfl
 | 5,_=>rfl
 | 6,_=>rfl
 | 7,_=>rfl
theorem sample_any (w:World):Calls Tryz.prog 41 #[] w fun e w'=>∃ gn Al Ah,e = .returned (.tuple #[ntV smpN (some ⟨gn,0,none⟩) 7,wtsV (some ⟨Al,0,none⟩) (some ⟨Ah,0,none⟩) 4 4 4 4])∧NtAt w' w'.heap.size (some ⟨gn,0,none⟩) smpN.l ∧
  Rd w' w'.heap.size (some ⟨Al,0,none⟩) ((3+1)*2) (prsF smpL)∧Rd w' w'.heap.size (some ⟨Ah,0,none⟩) ((3+1)*2) (prsF smpH)∧Below w.heap.size w w':=by
 have HO01:=zqh of01_any;have HO13:=zqh of13_any;have HO12:=zqh of12_any;have HO11:=zqh of11_any;have HO23:=zqh of23_any;have HO31:=zqh of31_any;have q0:=((Bag.zero w).new #[.int .i64 0,.slice none 0 0] 24 w.heap.size 2 rfl rfl).new #[.slice none 0 0,.slice none 0 0] 39 (w.heap.size+1) 2 (by simp) rfl
 go_enter Tryz.func41, Tryz.ntmps41
 go_upto_region 1 with (fail)
 go_cut [2] from 3 to 14 (fun p wx=>∃ gn gb b2 b5 b6,p = .pointer (some ⟨gb,0,none⟩)∧wx.rowIs gb 24 2 (arrF #[.int .i64 3,.slice (some ⟨gn,0,none⟩) 7 7])∧SmpR wx gn b2 b5 b6∧(w.heap.size+1<b2∧w.heap.size+1<b5∧w.heap.size+1<b6∧w.heap.size+1<gn)∧wx.rowIs w.heap.size 24 2 (arrF #[.int .i64 0,.slice none 0 0])∧wx.rowIs (w.heap.size+1) 39 2 (arrF #[.slice none 0 0,.slice none 0 0])∧Below w.heap.size w wx)
 case first =>
  go_wp2_with (first
   | (go_at_call 42;(with_reducible refine (lit_any _ (-1)).mono ?_);rintro e w1 ⟨rfl,hb1⟩;have q1:=q0.below hb1;clear q0 hb1)
   | (go_at_call 42;(with_reducible refine (lit_any _ 2).mono ?_);rintro e w2 ⟨rfl,hb2⟩;have hw2:=((q1.below hb2).rows (w.heap.size+1, 39,2,#[.slice none 0 0,.slice none 0 0]) (by simp)).lt;have q2:=(q1.below hb2).new #[.int .i64 0,.int .i64 1] 3 w2.heap.size 2 rfl rfl;clear q1 hb2)
   | (go_at_call 42;(with_reducible refine (lit_any _ 1).mono ?_);rintro e w3 ⟨rfl,hb3⟩;have q3:=q2.below hb3;clear q2 hb3)
   | (go_at_call 42;(with_reducible refine (lit_any _ 3).mono ?_);rintro e w4 ⟨rfl,hb4⟩;have q4:=q3.below hb4;clear q3 hb4))
  have q5:=(((q4.new #[.int .i64 3,.int .i64 4] 3 w4.heap.size 2 rfl rfl).new #[.int .i64 2,.int .i64 5] 3 (w4.heap.size+1) 2 (by simp) rfl).new (smpNA w2.heap.size w4.heap.size (w4.heap.size+1)) 66 (w4.heap.size+1+1) 21 (by simp) rfl).new #[.int .i64 3,.slice (some ⟨w4.heap.size+1+1,0,none⟩) 7 7] 24 (w4.heap.size+1+1+1) 2 (by simp) rfl;have l1:=(q4.rows (w.heap.size+1, 39,2,#[.slice none 0 0,.slice none 0 0]) (by simp)).lt;have l2:=(q4.rows (w2.heap.size, 3,2,#[.int .i64 0,.int .i64 1]) (by simp)).lt;simp only at l1 l2
  go_meet
  exact ⟨w4.heap.size+1+1,w4.heap.size+1+1+1,w2.heap.size,w4.heap.size,w4.heap.size+1,by simp,q5.row0,
   ⟨q5.rows (w2.heap.size, 3,2,#[.int .i64 0,.int .i64 1]) (by simp),q5.rows (w4.heap.size, 3,2,#[.int .i64 3,.int .i64 4]) (by simp),q5.rows (w4.heap.size+1, 3,2,#[.int .i64 2,.int .i64 5]) (by simp),q5.rows (w4.heap.size+1+1, 66,21,smpNA w2.heap.size w4.heap.size (w4.heap.size+1)) (by simp)⟩,
   ⟨hw2,by omega,by omega,by omega⟩,q5.rows (w.heap.size, 24,2,#[.int .i64 0,.slice none 0 0]) (by simp),q5.rows (w.heap.size+1, 39,2,#[.slice none 0 0,.slice none 0 0]) (by simp),q5.bl⟩
 case rest =>
 obtain ⟨gn,gb,b2,b5,b6,rfl,rgb,hnt,hbs,rr1,rr2,hbl⟩:=hcut;have HBS:=zqh hbs;have s1:wc.cell? ⟨gb,0,none⟩=some (.int .i64 3):=rgb.cell (i:=0) (by decide);have s2:wc.cell? ⟨gb,1,none⟩=some (.slice (some ⟨gn,0,none⟩) 7 7):=rgb.cell (i:=1) (by decide);have hgb:=rgb.lt;have HNT:=zqh hnt;have HR1:=zqh rr1;have HR2:=zqh rr2;have HBL:=zqh hbl;clear hnt rr1 rr2 hbl rgb q0 hbs
 go_upto_region 2 with (fail)
 go_cut [] from 15 to 26 (fun wx=>∃ XA XB,wx.rowIs w.heap.size 24 2 (arrF #[.int .i64 3,.slice (some ⟨gn,0,none⟩) 7 7])∧wx.rowIs (w.heap.size+1) 39 2 (arrF #[.slice (some ⟨XA,0,none⟩) 4 4,.slice (some ⟨XB,0,none⟩) 4 4])∧wx.rowIs XA 33 8 (arrF #[.string (natB 0),.string (natB 1),.string (natB 1),.string (natB 3),.string (natB 1),.string (natB 2),.string (natB 1),.string (natB 1)])∧wx.rowIs XB 33 8 (arrF #[.string (natB 0),.string (natB 1),.string (natB 2),.string (natB 3),.string (natB 1),.string (natB 2),.string (natB 3),.string (natB 1)])∧SmpR wx gn b2 b5 b6∧Below w.heap.size w wx)
 case first =>
  go_wp2_with fail
  have HS:Hid (∀ W,Below wc.heap.size wc W→W.cell? ⟨gb,0,none⟩=some (.int .i64 3)∧W.cell? ⟨gb,1,none⟩=some (.slice (some ⟨gn,0,none⟩) 7 7)):=zqh fun W hb=>⟨(hb.cell (p:=⟨gb,0,none⟩) hgb).trans s1,(hb.cell (p:=⟨gb,1,none⟩) hgb).trans s2⟩
  refine wp_region_props (n:=_) (PX:=[zqu (.agg #[.int .i64 3,.slice (some ⟨gn,0,none⟩) 7 7]),
     zqu (.agg #[.string (natB 0),.string (natB 1)]),
     zqu (.agg #[.string (natB 1),.string (natB 3)]),
     zqu (.agg #[.string (natB 1),.string (natB 2)]),
     zqu (.agg #[.string (natB 1),.string (natB 1)]),
     fun xl xv xw=>∃ X,xv = .slice (some ⟨X,0,none⟩) 4 4∧wc.heap.size≤X∧World.rowIs xw X 33 8 (arrF #[.string (natB 0),.string (natB 1),.string (natB 1),.string (natB 3),.string (natB 1),.string (natB 2),.string (natB 1),.string (natB 1)]),
     zqu (.agg #[.string (natB 0),.string (natB 1)]),
     zqu (.agg #[.string (natB 2),.string (natB 3)]),
     zqu (.agg #[.string (natB 1),.string (natB 2)]),
     zqu (.agg #[.string (natB 3),.string (natB 1)]),
     fun xl xv xw=>∃ X,xv = .slice (some ⟨X,0,none⟩) 4 4∧wc.heap.size≤X∧World.rowIs xw X 33 8 (arrF #[.string (natB 0),.string (natB 1),.string (natB 2),.string (natB 3),.string (natB 1),.string (natB 2),.string (natB 3),.string (natB 1)]),
     fun xl xv xw=>∃ X Y,xv = .agg #[.slice (some ⟨X,0,none⟩) 4 4,.slice (some ⟨Y,0,none⟩) 4 4]∧(wc.heap.size≤X∧wc.heap.size≤Y)∧World.rowIs xw X 33 8 (arrF #[.string (natB 0),.string (natB 1),.string (natB 1),.string (natB 3),.string (natB 1),.string (natB 2),.string (natB 1),.string (natB 1)])∧World.rowIs xw Y 33 8 (arrF #[.string (natB 0),.string (natB 1),.string (natB 2),.string (natB 3),.string (natB 1),.string (natB 2),.string (natB 3),.string (natB 1)])])
    (AL:=[5,10]) (DP:=[[],[],[],[],[],[1,2,3,4],[],[],[],[],[6,7,8,9],[5,10]]) (L1:=[0,1,2,3,4,6,7,8,9]) (ex:=[5,10,11]) (by kernel_rfl) rfl (by kernel_rfl) ?_ ?_ (bs8 ?_ ?_ ?_ ?_ ?_ ?_ ?_ ?_)
  ·refine zqg ?_ (zqg ?_ (zqg ?_ (zqg ?_ (zqg ?_ (zqg ?_ (zqg ?_ (zqg ?_ (zqg ?_ (zqg ?_ (zqg ?_ (zqg ?_ zqi)))))))))))
   iterate 5 exact fun _ _ _ _ h _=>h
   ·exact fun l v w w2 h hb=>by obtain ⟨X,h1,h2,h3⟩:=h;exact ⟨X,h1,h2,rowBelow h3 hb⟩
   iterate 4 exact fun _ _ _ _ h _=>h
   ·exact fun l v w w2 h hb=>by obtain ⟨X,h1,h2,h3⟩:=h;exact ⟨X,h1,h2,rowBelow h3 hb⟩
   ·exact fun l v w w2 h hb=>by obtain ⟨X,Y,h1,h2,h3,h4⟩:=h;exact ⟨X,Y,h1,h2,rowBelow h3 hb,rowBelow h4 hb⟩
  ·refine zqg ?_ (zqg ?_ (zqg ?_ (zqg ?_ (zqg ?_ (zqg ?_ (zqg ?_ (zqg ?_ (zqg ?_ (zqg ?_ (zqg ?_ (zqg ?_ zqi)))))))))))
   ·refine zso rfl [] ?_;intro vs W hW hd K hK;clear hd
    try simp only [putsD,Act.put,zqa,zqb,zqc,zqd,zqe,zqf] at hK ⊢
    obtain ⟨m1,m2⟩:=HS.out W hW
    go_simp
    exact hK.out _ _ rfl (zqr _ _) (zqv rfl)
   ·refine zso rfl [] ?_;intro vs W hW hd K hK;clear hd
    try simp only [putsD,Act.put,zqa,zqb,zqc,zqd,zqe,zqf] at hK ⊢
    go_simp
    go_at_call 29
    (with_reducible first | refine (HO01.out _).mono ?_)
    rintro e w9 ⟨rfl,hb9⟩;exact hK.out _ _ (rfl) hb9 (fun h=>absurd h (by decide))
   ·refine zso rfl [] ?_;intro vs W hW hd K hK;clear hd
    try simp only [putsD,Act.put,zqa,zqb,zqc,zqd,zqe,zqf] at hK ⊢
    go_simp
    go_at_call 29
    (with_reducible first | refine (HO13.out _).mono ?_)
    rintro e w9 ⟨rfl,hb9⟩;exact hK.out _ _ (rfl) hb9 (fun h=>absurd h (by decide))
   ·refine zso rfl [] ?_;intro vs W hW hd K hK;clear hd
    try simp only [putsD,Act.put,zqa,zqb,zqc,zqd,zqe,zqf] at hK ⊢
    go_simp
    go_at_call 29
    (with_reducible first | refine (HO12.out _).mono ?_)
    rintro e w9 ⟨rfl,hb9⟩;exact hK.out _ _ (rfl) hb9 (fun h=>absurd h (by decide))
   ·refine zso rfl [] ?_;intro vs W hW hd K hK;clear hd
    try simp only [putsD,Act.put,zqa,zqb,zqc,zqd,zqe,zqf] at hK ⊢
    go_simp
    go_at_call 29
    (with_reducible first | refine (HO11.out _).mono ?_)
    rintro e w9 ⟨rfl,hb9⟩;exact hK.out _ _ (rfl) hb9 (fun h=>absurd h (by decide))
   ·refine zso rfl [] ?_;intro vs W hW hd K hK;clear hd
    try simp only [putsD,Act.put,zqa,zqb,zqc,zqd,zqe,zqf] at hK ⊢
    go_simp
    go_at_call 29
    (with_reducible first | refine (HO01.out _).mono ?_)
    rintro e w9 ⟨rfl,hb9⟩;exact hK.out _ _ (rfl) hb9 (fun h=>absurd h (by decide))
   ·refine zso rfl [] ?_;intro vs W hW hd K hK;clear hd
    try simp only [putsD,Act.put,zqa,zqb,zqc,zqd,zqe,zqf] at hK ⊢
    go_simp
    go_at_call 29
    (with_reducible first | refine (HO23.out _).mono ?_)
    rintro e w9 ⟨rfl,hb9⟩;exact hK.out _ _ (rfl) hb9 (fun h=>absurd h (by decide))
   ·refine zso rfl [] ?_;intro vs W hW hd K hK;clear hd
    try simp only [putsD,Act.put,zqa,zqb,zqc,zqd,zqe,zqf] at hK ⊢
    go_simp
    go_at_call 29
    (with_reducible first | refine (HO12.out _).mono ?_)
    rintro e w9 ⟨rfl,hb9⟩;exact hK.out _ _ (rfl) hb9 (fun h=>absurd h (by decide))
   ·refine zso rfl [] ?_;intro vs W hW hd K hK;clear hd
    try simp only [putsD,Act.put,zqa,zqb,zqc,zqd,zqe,zqf] at hK ⊢
    go_simp
    go_at_call 29
    (with_reducible first | refine (HO31.out _).mono ?_)
    rintro e w9 ⟨rfl,hb9⟩;exact hK.out _ _ (rfl) hb9 (fun h=>absurd h (by decide))
   ·refine zso rfl [(1,some 16),(2,some 17),(3,some 18),(4,some 19)] ?_;intro vs W hW hd K hK;have d1:vs 1 = .agg #[.string (natB 0),.string (natB 1)]:=hd 1 (by decide);have d2:vs 2 = .agg #[.string (natB 1),.string (natB 3)]:=hd 2 (by decide);have d3:vs 3 = .agg #[.string (natB 1),.string (natB 2)]:=hd 3 (by decide);have d4:vs 4 = .agg #[.string (natB 1),.string (natB 1)]:=hd 4 (by decide);clear hd
    try simp only [d1,d2,d3,d4,putsD,Act.put,zqa,zqb,zqc,zqd,zqe,zqf] at hK ⊢
    go_simp
    exact hK.out _ _ ⟨W.heap.size,rfl,hW.size,arrNew _ _ _ _ _ rfl rfl⟩ ((zqr _ _).alloc (zqn _) _) (fun _ b hb=>by simp [blkOf] at hb;subst hb;exact ⟨zqn _,by simp⟩)
   ·refine zso rfl [(6,some 21),(7,some 22),(8,some 23),(9,some 24)] ?_;intro vs W hW hd K hK;have d6:vs 6 = .agg #[.string (natB 0),.string (natB 1)]:=hd 6 (by decide);have d7:vs 7 = .agg #[.string (natB 2),.string (natB 3)]:=hd 7 (by decide);have d8:vs 8 = .agg #[.string (natB 1),.string (natB 2)]:=hd 8 (by decide);have d9:vs 9 = .agg #[.string (natB 3),.string (natB 1)]:=hd 9 (by decide);clear hd
    try simp only [d6,d7,d8,d9,putsD,Act.put,zqa,zqb,zqc,zqd,zqe,zqf] at hK ⊢
    go_simp
    exact hK.out _ _ ⟨W.heap.size,rfl,hW.size,arrNew _ _ _ _ _ rfl rfl⟩ ((zqr _ _).alloc (zqn _) _) (fun _ b hb=>by simp [blkOf] at hb;subst hb;exact ⟨zqn _,by simp⟩)
   ·refine zso rfl [(5,some 20),(10,some 25)] ?_;intro vs W hW hd K hK;obtain ⟨X20,d5,b20,r20⟩:∃ X,vs 5 = .slice (some ⟨X,0,none⟩) 4 4∧wc.heap.size≤X∧World.rowIs W X 33 8 (arrF #[.string (natB 0),.string (natB 1),.string (natB 1),.string (natB 3),.string (natB 1),.string (natB 2),.string (natB 1),.string (natB 1)]):=hd 5 (by decide);obtain ⟨X25,d10,b25,r25⟩:∃ X,vs 10 = .slice (some ⟨X,0,none⟩) 4 4∧wc.heap.size≤X∧World.rowIs W X 33 8 (arrF #[.string (natB 0),.string (natB 1),.string (natB 2),.string (natB 3),.string (natB 1),.string (natB 2),.string (natB 3),.string (natB 1)]):=hd 10 (by decide);clear hd
    try simp only [d5,d10,putsD,Act.put,zqa,zqb,zqc,zqd,zqe,zqf] at hK ⊢
    go_simp
    exact hK.out _ _ ⟨X20,X25,rfl,⟨b20,b25⟩,r20,r25⟩ (zqr _ _) (fun h=>absurd h (by decide))
  ·refine zfo [(0,some 15),(1,some 16),(2,some 17),(3,some 18),(4,some 19),(6,some 21),(7,some 22),(8,some 23),(9,some 24)] #[true,true,true,true,true,false,true,true,true,true,false,false,false,false] 5 ?_;intro vs Wf hW hd hbk hdis kf;simp only [zdj,zqu,and_true,List.getD_cons_succ,List.getD_cons_zero] at hd;obtain ⟨d0,d1,d2,d3,d4,d6,d7,d8,d9⟩:=hd;clear hbk hdis
   try simp only [d0,d1,d2,d3,d4,d6,d7,d8,d9,putsD,Act.put,zqa,zqb,zqc,zqd,zqe,zqf]
   clear d0 d1 d2 d3 d4 d6 d7 d8 d9 vs HS;have Z:SmZ w wc gn b2 b5 b6 #[.int .i64 0,.slice none 0 0] #[.slice none 0 0,.slice none 0 0] Wf:=⟨zqx HBL.out hW HBL.out.size,HNT.out.below hW,HBS.out,rowBelow HR1.out hW,rowBelow HR2.out hW,HR2.out.lt,hW.size⟩;refine wpAny_three3 5 10 12 (by kernel_rfl) rfl rfl rfl (fun K hK=>?_) (fun K hK=>?_) (fun K hK=>?_)
   ·go_simp
    refine hK.out _ _ ?_;clear hK K
    try simp only [putsD,Act.put,zqa,zqb,zqc,zqd,zqe,zqf]
    have r20:=arrNew Wf #[.string (natB 0),.string (natB 1),.string (natB 1),.string (natB 3),.string (natB 1),.string (natB 2),.string (natB 1),.string (natB 1)] 33 _ 8 rfl rfl;have b20:=Z.le;replace Z:=Z.alloc (.cells #[.string (natB 0),.string (natB 1),.string (natB 1),.string (natB 3),.string (natB 1),.string (natB 2),.string (natB 1),.string (natB 1)] 33);obtain ⟨X20,hX⟩:∃ X,Wf.heap.size=X:=⟨_,rfl⟩;rw [hX] at r20 b20 ⊢;clear hX;obtain ⟨Wfn,hWn⟩:∃ W,Wf.alloc (.cells #[.string (natB 0),.string (natB 1),.string (natB 1),.string (natB 3),.string (natB 1),.string (natB 2),.string (natB 1),.string (natB 1)] 33)=W:=⟨_,rfl⟩;rw [hWn] at Z r20 ⊢;clear hWn;refine wpAny_two2 10 12 (by kernel_rfl) rfl rfl (fun K hK=>?_) (fun K hK=>?_)
    ·go_simp
     refine hK.out _ _ ?_;clear hK K
     try simp only [putsD,Act.put,zqa,zqb,zqc,zqd,zqe,zqf]
     replace r20:=r20.alloc (.cells #[.string (natB 0),.string (natB 1),.string (natB 2),.string (natB 3),.string (natB 1),.string (natB 2),.string (natB 3),.string (natB 1)] 33);have r25:=arrNew Wfn #[.string (natB 0),.string (natB 1),.string (natB 2),.string (natB 3),.string (natB 1),.string (natB 2),.string (natB 3),.string (natB 1)] 33 _ 8 rfl rfl;have b25:=Z.le;replace Z:=Z.alloc (.cells #[.string (natB 0),.string (natB 1),.string (natB 2),.string (natB 3),.string (natB 1),.string (natB 2),.string (natB 3),.string (natB 1)] 33);obtain ⟨X25,hX⟩:∃ X,Wfn.heap.size=X:=⟨_,rfl⟩;rw [hX] at r25 b25 ⊢;clear hX;obtain ⟨Wfnn,hWn⟩:∃ W,Wfn.alloc (.cells #[.string (natB 0),.string (natB 1),.string (natB 2),.string (natB 3),.string (natB 1),.string (natB 2),.string (natB 3),.string (natB 1)] 33)=W:=⟨_,rfl⟩;rw [hWn] at Z r20 r25 ⊢;clear hWn;refine wpAny_two2 11 12 (by kernel_rfl) rfl rfl (fun K hK=>?_) (fun K hK=>?_)
     ·go_simp
      refine hK.out _ _ ?_;clear hK K
      try simp only [putsD,Act.put,zqa,zqb,zqc,zqd,zqe,zqf]
      refine wpAny_one1 12 (by kernel_rfl) rfl (fun K hK=>?_);have c0:=Z.r1.cell (i:=0) (by decide);have c1:=Z.r1.cell (i:=1) (by decide);have z0:=Z.r1.frozen 0;have z1:=Z.r1.frozen 1
      go_simp
      refine hK.out _ _ ?_;clear hK K c0 c1 z0 z1
      try simp only [putsD,Act.put,zqa,zqb,zqc,zqd,zqe,zqf]
      replace r20:=rowTwo r20 (Z.n1 b20) (.int .i64 3) (.slice (some ⟨gn,0,none⟩) 7 7);replace r25:=rowTwo r25 (Z.n1 b25) (.int .i64 3) (.slice (some ⟨gn,0,none⟩) 7 7);replace Z:=Z.put1 (.int .i64 3) (.slice (some ⟨gn,0,none⟩) 7 7);obtain ⟨Wfnnn,hWn⟩:∃ W,(Wfnn.setCell ⟨w.heap.size,0,none⟩ (.int .i64 3)).setCell ⟨w.heap.size,1,none⟩ (.slice (some ⟨gn,0,none⟩) 7 7)=W:=⟨_,rfl⟩;rw [hWn] at Z r20 r25 ⊢;clear hWn;refine wpAny_one1 13 (by kernel_rfl) rfl (fun K hK=>?_);have c0:=Z.r2.cell (i:=0) (by decide);have c1:=Z.r2.cell (i:=1) (by decide);have z0:=Z.r2.frozen 0;have z1:=Z.r2.frozen 1
      go_simp
      refine hK.out _ _ ?_;clear hK K c0 c1 z0 z1
      try simp only [putsD,Act.put,zqa,zqb,zqc,zqd,zqe,zqf]
      replace r20:=rowTwo r20 (Z.n2 b20) (.slice (some ⟨X20,0,none⟩) 4 4) (.slice (some ⟨X25,0,none⟩) 4 4);replace r25:=rowTwo r25 (Z.n2 b25) (.slice (some ⟨X20,0,none⟩) 4 4) (.slice (some ⟨X25,0,none⟩) 4 4);replace Z:=Z.put2 (.slice (some ⟨X20,0,none⟩) 4 4) (.slice (some ⟨X25,0,none⟩) 4 4);obtain ⟨Wfnnnn,hWn⟩:∃ W,(Wfnnn.setCell ⟨w.heap.size+1,0,none⟩ (.slice (some ⟨X20,0,none⟩) 4 4)).setCell ⟨w.heap.size+1,1,none⟩ (.slice (some ⟨X25,0,none⟩) 4 4)=W:=⟨_,rfl⟩;rw [hWn] at Z r20 r25 ⊢;clear hWn;refine wpAny_end (by kernel_rfl) ?_ _
      try go_wp2
      go_meet
      exact ⟨X20,X25,Z.r1,Z.r2,r20,r25,Z.sm,Z.bl⟩
     ·have c0:=Z.r1.cell (i:=0) (by decide);have c1:=Z.r1.cell (i:=1) (by decide);have z0:=Z.r1.frozen 0;have z1:=Z.r1.frozen 1
      go_simp
      refine hK.out _ _ ?_;clear hK K c0 c1 z0 z1
      try simp only [putsD,Act.put,zqa,zqb,zqc,zqd,zqe,zqf]
      replace r20:=rowTwo r20 (Z.n1 b20) (.int .i64 3) (.slice (some ⟨gn,0,none⟩) 7 7);replace r25:=rowTwo r25 (Z.n1 b25) (.int .i64 3) (.slice (some ⟨gn,0,none⟩) 7 7);replace Z:=Z.put1 (.int .i64 3) (.slice (some ⟨gn,0,none⟩) 7 7);obtain ⟨Wfnnn,hWn⟩:∃ W,(Wfnn.setCell ⟨w.heap.size,0,none⟩ (.int .i64 3)).setCell ⟨w.heap.size,1,none⟩ (.slice (some ⟨gn,0,none⟩) 7 7)=W:=⟨_,rfl⟩;rw [hWn] at Z r20 r25 ⊢;clear hWn;refine wpAny_one1 11 (by kernel_rfl) rfl (fun K hK=>?_)
      go_simp
      refine hK.out _ _ ?_;clear hK K
      try simp only [putsD,Act.put,zqa,zqb,zqc,zqd,zqe,zqf]
      refine wpAny_one1 13 (by kernel_rfl) rfl (fun K hK=>?_);have c0:=Z.r2.cell (i:=0) (by decide);have c1:=Z.r2.cell (i:=1) (by decide);have z0:=Z.r2.frozen 0;have z1:=Z.r2.frozen 1
      go_simp
      refine hK.out _ _ ?_;clear hK K c0 c1 z0 z1
      try simp only [putsD,Act.put,zqa,zqb,zqc,zqd,zqe,zqf]
      replace r20:=rowTwo r20 (Z.n2 b20) (.slice (some ⟨X20,0,none⟩) 4 4) (.slice (some ⟨X25,0,none⟩) 4 4);replace r25:=rowTwo r25 (Z.n2 b25) (.slice (some ⟨X20,0,none⟩) 4 4) (.slice (some ⟨X25,0,none⟩) 4 4);replace Z:=Z.put2 (.slice (some ⟨X20,0,none⟩) 4 4) (.slice (some ⟨X25,0,none⟩) 4 4);obtain ⟨Wfnnnn,hWn⟩:∃ W,(Wfnnn.setCell ⟨w.heap.size+1,0,none⟩ (.slice (some ⟨X20,0,none⟩) 4 4)).setCell ⟨w.heap.size+1,1,none⟩ (.slice (some ⟨X25,0,none⟩) 4 4)=W:=⟨_,rfl⟩;rw [hWn] at Z r20 r25 ⊢;clear hWn;refine wpAny_end (by kernel_rfl) ?_ _
      try go_wp2
      go_meet
      exact ⟨X20,X25,Z.r1,Z.r2,r20,r25,Z.sm,Z.bl⟩
    ·have c0:=Z.r1.cell (i:=0) (by decide);have c1:=Z.r1.cell (i:=1) (by decide);have z0:=Z.r1.frozen 0;have z1:=Z.r1.frozen 1
     go_simp
     refine hK.out _ _ ?_;clear hK K c0 c1 z0 z1
     try simp only [putsD,Act.put,zqa,zqb,zqc,zqd,zqe,zqf]
     replace r20:=rowTwo r20 (Z.n1 b20) (.int .i64 3) (.slice (some ⟨gn,0,none⟩) 7 7);replace Z:=Z.put1 (.int .i64 3) (.slice (some ⟨gn,0,none⟩) 7 7);obtain ⟨Wfnn,hWn⟩:∃ W,(Wfn.setCell ⟨w.heap.size,0,none⟩ (.int .i64 3)).setCell ⟨w.heap.size,1,none⟩ (.slice (some ⟨gn,0,none⟩) 7 7)=W:=⟨_,rfl⟩;rw [hWn] at Z r20 ⊢;clear hWn;refine wpAny_one1 10 (by kernel_rfl) rfl (fun K hK=>?_)
     go_simp
     refine hK.out _ _ ?_;clear hK K
     try simp only [putsD,Act.put,zqa,zqb,zqc,zqd,zqe,zqf]
     replace r20:=r20.alloc (.cells #[.string (natB 0),.string (natB 1),.string (natB 2),.string (natB 3),.string (natB 1),.string (natB 2),.string (natB 3),.string (natB 1)] 33);have r25:=arrNew Wfnn #[.string (natB 0),.string (natB 1),.string (natB 2),.string (natB 3),.string (natB 1),.string (natB 2),.string (natB 3),.string (natB 1)] 33 _ 8 rfl rfl;have b25:=Z.le;replace Z:=Z.alloc (.cells #[.string (natB 0),.string (natB 1),.string (natB 2),.string (natB 3),.string (natB 1),.string (natB 2),.string (natB 3),.string (natB 1)] 33);obtain ⟨X25,hX⟩:∃ X,Wfnn.heap.size=X:=⟨_,rfl⟩;rw [hX] at r25 b25 ⊢;clear hX;obtain ⟨Wfnnn,hWn⟩:∃ W,Wfnn.alloc (.cells #[.string (natB 0),.string (natB 1),.string (natB 2),.string (natB 3),.string (natB 1),.string (natB 2),.string (natB 3),.string (natB 1)] 33)=W:=⟨_,rfl⟩;rw [hWn] at Z r20 r25 ⊢;clear hWn;refine wpAny_one1 11 (by kernel_rfl) rfl (fun K hK=>?_)
     go_simp
     refine hK.out _ _ ?_;clear hK K
     try simp only [putsD,Act.put,zqa,zqb,zqc,zqd,zqe,zqf]
     refine wpAny_one1 13 (by kernel_rfl) rfl (fun K hK=>?_);have c0:=Z.r2.cell (i:=0) (by decide);have c1:=Z.r2.cell (i:=1) (by decide);have z0:=Z.r2.frozen 0;have z1:=Z.r2.frozen 1
     go_simp
     refine hK.out _ _ ?_;clear hK K c0 c1 z0 z1
     try simp only [putsD,Act.put,zqa,zqb,zqc,zqd,zqe,zqf]
     replace r20:=rowTwo r20 (Z.n2 b20) (.slice (some ⟨X20,0,none⟩) 4 4) (.slice (some ⟨X25,0,none⟩) 4 4);replace r25:=rowTwo r25 (Z.n2 b25) (.slice (some ⟨X20,0,none⟩) 4 4) (.slice (some ⟨X25,0,none⟩) 4 4);replace Z:=Z.put2 (.slice (some ⟨X20,0,none⟩) 4 4) (.slice (some ⟨X25,0,none⟩) 4 4);obtain ⟨Wfnnnn,hWn⟩:∃ W,(Wfnnn.setCell ⟨w.heap.size+1,0,none⟩ (.slice (some ⟨X20,0,none⟩) 4 4)).setCell ⟨w.heap.size+1,1,none⟩ (.slice (some ⟨X25,0,none⟩) 4 4)=W:=⟨_,rfl⟩;rw [hWn] at Z r20 r25 ⊢;clear hWn;refine wpAny_end (by kernel_rfl) ?_ _
     try go_wp2
     go_meet
     exact ⟨X20,X25,Z.r1,Z.r2,r20,r25,Z.sm,Z.bl⟩
   ·go_simp
    refine hK.out _ _ ?_;clear hK K
    try simp only [putsD,Act.put,zqa,zqb,zqc,zqd,zqe,zqf]
    have r25:=arrNew Wf #[.string (natB 0),.string (natB 1),.string (natB 2),.string (natB 3),.string (natB 1),.string (natB 2),.string (natB 3),.string (natB 1)] 33 _ 8 rfl rfl;have b25:=Z.le;replace Z:=Z.alloc (.cells #[.string (natB 0),.string (natB 1),.string (natB 2),.string (natB 3),.string (natB 1),.string (natB 2),.string (natB 3),.string (natB 1)] 33);obtain ⟨X25,hX⟩:∃ X,Wf.heap.size=X:=⟨_,rfl⟩;rw [hX] at r25 b25 ⊢;clear hX;obtain ⟨Wfn,hWn⟩:∃ W,Wf.alloc (.cells #[.string (natB 0),.string (natB 1),.string (natB 2),.string (natB 3),.string (natB 1),.string (natB 2),.string (natB 3),.string (natB 1)] 33)=W:=⟨_,rfl⟩;rw [hWn] at Z r25 ⊢;clear hWn;refine wpAny_two2 5 12 (by kernel_rfl) rfl rfl (fun K hK=>?_) (fun K hK=>?_)
    ·go_simp
     refine hK.out _ _ ?_;clear hK K
     try simp only [putsD,Act.put,zqa,zqb,zqc,zqd,zqe,zqf]
     replace r25:=r25.alloc (.cells #[.string (natB 0),.string (natB 1),.string (natB 1),.string (natB 3),.string (natB 1),.string (natB 2),.string (natB 1),.string (natB 1)] 33);have r20:=arrNew Wfn #[.string (natB 0),.string (natB 1),.string (natB 1),.string (natB 3),.string (natB 1),.string (natB 2),.string (natB 1),.string (natB 1)] 33 _ 8 rfl rfl;have b20:=Z.le;replace Z:=Z.alloc (.cells #[.string (natB 0),.string (natB 1),.string (natB 1),.string (natB 3),.string (natB 1),.string (natB 2),.string (natB 1),.string (natB 1)] 33);obtain ⟨X20,hX⟩:∃ X,Wfn.heap.size=X:=⟨_,rfl⟩;rw [hX] at r20 b20 ⊢;clear hX;obtain ⟨Wfnn,hWn⟩:∃ W,Wfn.alloc (.cells #[.string (natB 0),.string (natB 1),.string (natB 1),.string (natB 3),.string (natB 1),.string (natB 2),.string (natB 1),.string (natB 1)] 33)=W:=⟨_,rfl⟩;rw [hWn] at Z r20 r25 ⊢;clear hWn;refine wpAny_two2 11 12 (by kernel_rfl) rfl rfl (fun K hK=>?_) (fun K hK=>?_)
     ·go_simp
      refine hK.out _ _ ?_;clear hK K
      try simp only [putsD,Act.put,zqa,zqb,zqc,zqd,zqe,zqf]
      refine wpAny_one1 12 (by kernel_rfl) rfl (fun K hK=>?_);have c0:=Z.r1.cell (i:=0) (by decide);have c1:=Z.r1.cell (i:=1) (by decide);have z0:=Z.r1.frozen 0;have z1:=Z.r1.frozen 1
      go_simp
      refine hK.out _ _ ?_;clear hK K c0 c1 z0 z1
      try simp only [putsD,Act.put,zqa,zqb,zqc,zqd,zqe,zqf]
      replace r20:=rowTwo r20 (Z.n1 b20) (.int .i64 3) (.slice (some ⟨gn,0,none⟩) 7 7);replace r25:=rowTwo r25 (Z.n1 b25) (.int .i64 3) (.slice (some ⟨gn,0,none⟩) 7 7);replace Z:=Z.put1 (.int .i64 3) (.slice (some ⟨gn,0,none⟩) 7 7);obtain ⟨Wfnnn,hWn⟩:∃ W,(Wfnn.setCell ⟨w.heap.size,0,none⟩ (.int .i64 3)).setCell ⟨w.heap.size,1,none⟩ (.slice (some ⟨gn,0,none⟩) 7 7)=W:=⟨_,rfl⟩;rw [hWn] at Z r20 r25 ⊢;clear hWn;refine wpAny_one1 13 (by kernel_rfl) rfl (fun K hK=>?_);have c0:=Z.r2.cell (i:=0) (by decide);have c1:=Z.r2.cell (i:=1) (by decide);have z0:=Z.r2.frozen 0;have z1:=Z.r2.frozen 1
      go_simp
      refine hK.out _ _ ?_;clear hK K c0 c1 z0 z1
      try simp only [putsD,Act.put,zqa,zqb,zqc,zqd,zqe,zqf]
      replace r20:=rowTwo r20 (Z.n2 b20) (.slice (some ⟨X20,0,none⟩) 4 4) (.slice (some ⟨X25,0,none⟩) 4 4);replace r25:=rowTwo r25 (Z.n2 b25) (.slice (some ⟨X20,0,none⟩) 4 4) (.slice (some ⟨X25,0,none⟩) 4 4);replace Z:=Z.put2 (.slice (some ⟨X20,0,none⟩) 4 4) (.slice (some ⟨X25,0,none⟩) 4 4);obtain ⟨Wfnnnn,hWn⟩:∃ W,(Wfnnn.setCell ⟨w.heap.size+1,0,none⟩ (.slice (some ⟨X20,0,none⟩) 4 4)).setCell ⟨w.heap.size+1,1,none⟩ (.slice (some ⟨X25,0,none⟩) 4 4)=W:=⟨_,rfl⟩;rw [hWn] at Z r20 r25 ⊢;clear hWn;refine wpAny_end (by kernel_rfl) ?_ _
      try go_wp2
      go_meet
      exact ⟨X20,X25,Z.r1,Z.r2,r20,r25,Z.sm,Z.bl⟩
     ·have c0:=Z.r1.cell (i:=0) (by decide);have c1:=Z.r1.cell (i:=1) (by decide);have z0:=Z.r1.frozen 0;have z1:=Z.r1.frozen 1
      go_simp
      refine hK.out _ _ ?_;clear hK K c0 c1 z0 z1
      try simp only [putsD,Act.put,zqa,zqb,zqc,zqd,zqe,zqf]
      replace r20:=rowTwo r20 (Z.n1 b20) (.int .i64 3) (.slice (some ⟨gn,0,none⟩) 7 7);replace r25:=rowTwo r25 (Z.n1 b25) (.int .i64 3) (.slice (some ⟨gn,0,none⟩) 7 7);replace Z:=Z.put1 (.int .i64 3) (.slice (some ⟨gn,0,none⟩) 7 7);obtain ⟨Wfnnn,hWn⟩:∃ W,(Wfnn.setCell ⟨w.heap.size,0,none⟩ (.int .i64 3)).setCell ⟨w.heap.size,1,none⟩ (.slice (some ⟨gn,0,none⟩) 7 7)=W:=⟨_,rfl⟩;rw [hWn] at Z r20 r25 ⊢;clear hWn;refine wpAny_one1 11 (by kernel_rfl) rfl (fun K hK=>?_)
      go_simp
      refine hK.out _ _ ?_;clear hK K
      try simp only [putsD,Act.put,zqa,zqb,zqc,zqd,zqe,zqf]
      refine wpAny_one1 13 (by kernel_rfl) rfl (fun K hK=>?_);have c0:=Z.r2.cell (i:=0) (by decide);have c1:=Z.r2.cell (i:=1) (by decide);have z0:=Z.r2.frozen 0;have z1:=Z.r2.frozen 1
      go_simp
      refine hK.out _ _ ?_;clear hK K c0 c1 z0 z1
      try simp only [putsD,Act.put,zqa,zqb,zqc,zqd,zqe,zqf]
      replace r20:=rowTwo r20 (Z.n2 b20) (.slice (some ⟨X20,0,none⟩) 4 4) (.slice (some ⟨X25,0,none⟩) 4 4);replace r25:=rowTwo r25 (Z.n2 b25) (.slice (some ⟨X20,0,none⟩) 4 4) (.slice (some ⟨X25,0,none⟩) 4 4);replace Z:=Z.put2 (.slice (some ⟨X20,0,none⟩) 4 4) (.slice (some ⟨X25,0,none⟩) 4 4);obtain ⟨Wfnnnn,hWn⟩:∃ W,(Wfnnn.setCell ⟨w.heap.size+1,0,none⟩ (.slice (some ⟨X20,0,none⟩) 4 4)).setCell ⟨w.heap.size+1,1,none⟩ (.slice (some ⟨X25,0,none⟩) 4 4)=W:=⟨_,rfl⟩;rw [hWn] at Z r20 r25 ⊢;clear hWn;refine wpAny_end (by kernel_rfl) ?_ _
      try go_wp2
      go_meet
      exact ⟨X20,X25,Z.r1,Z.r2,r20,r25,Z.sm,Z.bl⟩
    ·have c0:=Z.r1.cell (i:=0) (by decide);have c1:=Z.r1.cell (i:=1) (by decide);have z0:=Z.r1.frozen 0;have z1:=Z.r1.frozen 1
     go_simp
     refine hK.out _ _ ?_;clear hK K c0 c1 z0 z1
     try simp only [putsD,Act.put,zqa,zqb,zqc,zqd,zqe,zqf]
     replace r25:=rowTwo r25 (Z.n1 b25) (.int .i64 3) (.slice (some ⟨gn,0,none⟩) 7 7);replace Z:=Z.put1 (.int .i64 3) (.slice (some ⟨gn,0,none⟩) 7 7);obtain ⟨Wfnn,hWn⟩:∃ W,(Wfn.setCell ⟨w.heap.size,0,none⟩ (.int .i64 3)).setCell ⟨w.heap.size,1,none⟩ (.slice (some ⟨gn,0,none⟩) 7 7)=W:=⟨_,rfl⟩;rw [hWn] at Z r25 ⊢;clear hWn;refine wpAny_one1 5 (by kernel_rfl) rfl (fun K hK=>?_)
     go_simp
     refine hK.out _ _ ?_;clear hK K
     try simp only [putsD,Act.put,zqa,zqb,zqc,zqd,zqe,zqf]
     replace r25:=r25.alloc (.cells #[.string (natB 0),.string (natB 1),.string (natB 1),.string (natB 3),.string (natB 1),.string (natB 2),.string (natB 1),.string (natB 1)] 33);have r20:=arrNew Wfnn #[.string (natB 0),.string (natB 1),.string (natB 1),.string (natB 3),.string (natB 1),.string (natB 2),.string (natB 1),.string (natB 1)] 33 _ 8 rfl rfl;have b20:=Z.le;replace Z:=Z.alloc (.cells #[.string (natB 0),.string (natB 1),.string (natB 1),.string (natB 3),.string (natB 1),.string (natB 2),.string (natB 1),.string (natB 1)] 33);obtain ⟨X20,hX⟩:∃ X,Wfnn.heap.size=X:=⟨_,rfl⟩;rw [hX] at r20 b20 ⊢;clear hX;obtain ⟨Wfnnn,hWn⟩:∃ W,Wfnn.alloc (.cells #[.string (natB 0),.string (natB 1),.string (natB 1),.string (natB 3),.string (natB 1),.string (natB 2),.string (natB 1),.string (natB 1)] 33)=W:=⟨_,rfl⟩;rw [hWn] at Z r20 r25 ⊢;clear hWn;refine wpAny_one1 11 (by kernel_rfl) rfl (fun K hK=>?_)
     go_simp
     refine hK.out _ _ ?_;clear hK K
     try simp only [putsD,Act.put,zqa,zqb,zqc,zqd,zqe,zqf]
     refine wpAny_one1 13 (by kernel_rfl) rfl (fun K hK=>?_);have c0:=Z.r2.cell (i:=0) (by decide);have c1:=Z.r2.cell (i:=1) (by decide);have z0:=Z.r2.frozen 0;have z1:=Z.r2.frozen 1
     go_simp
     refine hK.out _ _ ?_;clear hK K c0 c1 z0 z1
     try simp only [putsD,Act.put,zqa,zqb,zqc,zqd,zqe,zqf]
     replace r20:=rowTwo r20 (Z.n2 b20) (.slice (some ⟨X20,0,none⟩) 4 4) (.slice (some ⟨X25,0,none⟩) 4 4);replace r25:=rowTwo r25 (Z.n2 b25) (.slice (some ⟨X20,0,none⟩) 4 4) (.slice (some ⟨X25,0,none⟩) 4 4);replace Z:=Z.put2 (.slice (some ⟨X20,0,none⟩) 4 4) (.slice (some ⟨X25,0,none⟩) 4 4);obtain ⟨Wfnnnn,hWn⟩:∃ W,(Wfnnn.setCell ⟨w.heap.size+1,0,none⟩ (.slice (some ⟨X20,0,none⟩) 4 4)).setCell ⟨w.heap.size+1,1,none⟩ (.slice (some ⟨X25,0,none⟩) 4 4)=W:=⟨_,rfl⟩;rw [hWn] at Z r20 r25 ⊢;clear hWn;refine wpAny_end (by kernel_rfl) ?_ _
     try go_wp2
     go_meet
     exact ⟨X20,X25,Z.r1,Z.r2,r20,r25,Z.sm,Z.bl⟩
   ·have c0:=Z.r1.cell (i:=0) (by decide);have c1:=Z.r1.cell (i:=1) (by decide);have z0:=Z.r1.frozen 0;have z1:=Z.r1.frozen 1
    go_simp
    refine hK.out _ _ ?_;clear hK K c0 c1 z0 z1
    try simp only [putsD,Act.put,zqa,zqb,zqc,zqd,zqe,zqf]
    replace Z:=Z.put1 (.int .i64 3) (.slice (some ⟨gn,0,none⟩) 7 7);obtain ⟨Wfn,hWn⟩:∃ W,(Wf.setCell ⟨w.heap.size,0,none⟩ (.int .i64 3)).setCell ⟨w.heap.size,1,none⟩ (.slice (some ⟨gn,0,none⟩) 7 7)=W:=⟨_,rfl⟩;rw [hWn] at Z ⊢;clear hWn;refine wpAny_two2 5 10 (by kernel_rfl) rfl rfl (fun K hK=>?_) (fun K hK=>?_)
    ·go_simp
     refine hK.out _ _ ?_;clear hK K
     try simp only [putsD,Act.put,zqa,zqb,zqc,zqd,zqe,zqf]
     have r20:=arrNew Wfn #[.string (natB 0),.string (natB 1),.string (natB 1),.string (natB 3),.string (natB 1),.string (natB 2),.string (natB 1),.string (natB 1)] 33 _ 8 rfl rfl;have b20:=Z.le;replace Z:=Z.alloc (.cells #[.string (natB 0),.string (natB 1),.string (natB 1),.string (natB 3),.string (natB 1),.string (natB 2),.string (natB 1),.string (natB 1)] 33);obtain ⟨X20,hX⟩:∃ X,Wfn.heap.size=X:=⟨_,rfl⟩;rw [hX] at r20 b20 ⊢;clear hX;obtain ⟨Wfnn,hWn⟩:∃ W,Wfn.alloc (.cells #[.string (natB 0),.string (natB 1),.string (natB 1),.string (natB 3),.string (natB 1),.string (natB 2),.string (natB 1),.string (natB 1)] 33)=W:=⟨_,rfl⟩;rw [hWn] at Z r20 ⊢;clear hWn;refine wpAny_one1 10 (by kernel_rfl) rfl (fun K hK=>?_)
     go_simp
     refine hK.out _ _ ?_;clear hK K
     try simp only [putsD,Act.put,zqa,zqb,zqc,zqd,zqe,zqf]
     replace r20:=r20.alloc (.cells #[.string (natB 0),.string (natB 1),.string (natB 2),.string (natB 3),.string (natB 1),.string (natB 2),.string (natB 3),.string (natB 1)] 33);have r25:=arrNew Wfnn #[.string (natB 0),.string (natB 1),.string (natB 2),.string (natB 3),.string (natB 1),.string (natB 2),.string (natB 3),.string (natB 1)] 33 _ 8 rfl rfl;have b25:=Z.le;replace Z:=Z.alloc (.cells #[.string (natB 0),.string (natB 1),.string (natB 2),.string (natB 3),.string (natB 1),.string (natB 2),.string (natB 3),.string (natB 1)] 33);obtain ⟨X25,hX⟩:∃ X,Wfnn.heap.size=X:=⟨_,rfl⟩;rw [hX] at r25 b25 ⊢;clear hX;obtain ⟨Wfnnn,hWn⟩:∃ W,Wfnn.alloc (.cells #[.string (natB 0),.string (natB 1),.string (natB 2),.string (natB 3),.string (natB 1),.string (natB 2),.string (natB 3),.string (natB 1)] 33)=W:=⟨_,rfl⟩;rw [hWn] at Z r20 r25 ⊢;clear hWn;refine wpAny_one1 11 (by kernel_rfl) rfl (fun K hK=>?_)
     go_simp
     refine hK.out _ _ ?_;clear hK K
     try simp only [putsD,Act.put,zqa,zqb,zqc,zqd,zqe,zqf]
     refine wpAny_one1 13 (by kernel_rfl) rfl (fun K hK=>?_);have c0:=Z.r2.cell (i:=0) (by decide);have c1:=Z.r2.cell (i:=1) (by decide);have z0:=Z.r2.frozen 0;have z1:=Z.r2.frozen 1
     go_simp
     refine hK.out _ _ ?_;clear hK K c0 c1 z0 z1
     try simp only [putsD,Act.put,zqa,zqb,zqc,zqd,zqe,zqf]
     replace r20:=rowTwo r20 (Z.n2 b20) (.slice (some ⟨X20,0,none⟩) 4 4) (.slice (some ⟨X25,0,none⟩) 4 4);replace r25:=rowTwo r25 (Z.n2 b25) (.slice (some ⟨X20,0,none⟩) 4 4) (.slice (some ⟨X25,0,none⟩) 4 4);replace Z:=Z.put2 (.slice (some ⟨X20,0,none⟩) 4 4) (.slice (some ⟨X25,0,none⟩) 4 4);obtain ⟨Wfnnnn,hWn⟩:∃ W,(Wfnnn.setCell ⟨w.heap.size+1,0,none⟩ (.slice (some ⟨X20,0,none⟩) 4 4)).setCell ⟨w.heap.size+1,1,none⟩ (.slice (some ⟨X25,0,none⟩) 4 4)=W:=⟨_,rfl⟩;rw [hWn] at Z r20 r25 ⊢;clear hWn;refine wpAny_end (by kernel_rfl) ?_ _
     try go_wp2
     go_meet
     exact ⟨X20,X25,Z.r1,Z.r2,r20,r25,Z.sm,Z.bl⟩
    ·go_simp
     refine hK.out _ _ ?_;clear hK K
     try simp only [putsD,Act.put,zqa,zqb,zqc,zqd,zqe,zqf]
     have r25:=arrNew Wfn #[.string (natB 0),.string (natB 1),.string (natB 2),.string (natB 3),.string (natB 1),.string (natB 2),.string (natB 3),.string (natB 1)] 33 _ 8 rfl rfl;have b25:=Z.le;replace Z:=Z.alloc (.cells #[.string (natB 0),.string (natB 1),.string (natB 2),.string (natB 3),.string (natB 1),.string (natB 2),.string (natB 3),.string (natB 1)] 33);obtain ⟨X25,hX⟩:∃ X,Wfn.heap.size=X:=⟨_,rfl⟩;rw [hX] at r25 b25 ⊢;clear hX;obtain ⟨Wfnn,hWn⟩:∃ W,Wfn.alloc (.cells #[.string (natB 0),.string (natB 1),.string (natB 2),.string (natB 3),.string (natB 1),.string (natB 2),.string (natB 3),.string (natB 1)] 33)=W:=⟨_,rfl⟩;rw [hWn] at Z r25 ⊢;clear hWn;refine wpAny_one1 5 (by kernel_rfl) rfl (fun K hK=>?_)
     go_simp
     refine hK.out _ _ ?_;clear hK K
     try simp only [putsD,Act.put,zqa,zqb,zqc,zqd,zqe,zqf]
     replace r25:=r25.alloc (.cells #[.string (natB 0),.string (natB 1),.string (natB 1),.string (natB 3),.string (natB 1),.string (natB 2),.string (natB 1),.string (natB 1)] 33);have r20:=arrNew Wfnn #[.string (natB 0),.string (natB 1),.string (natB 1),.string (natB 3),.string (natB 1),.string (natB 2),.string (natB 1),.string (natB 1)] 33 _ 8 rfl rfl;have b20:=Z.le;replace Z:=Z.alloc (.cells #[.string (natB 0),.string (natB 1),.string (natB 1),.string (natB 3),.string (natB 1),.string (natB 2),.string (natB 1),.string (natB 1)] 33);obtain ⟨X20,hX⟩:∃ X,Wfnn.heap.size=X:=⟨_,rfl⟩;rw [hX] at r20 b20 ⊢;clear hX;obtain ⟨Wfnnn,hWn⟩:∃ W,Wfnn.alloc (.cells #[.string (natB 0),.string (natB 1),.string (natB 1),.string (natB 3),.string (natB 1),.string (natB 2),.string (natB 1),.string (natB 1)] 33)=W:=⟨_,rfl⟩;rw [hWn] at Z r20 r25 ⊢;clear hWn;refine wpAny_one1 11 (by kernel_rfl) rfl (fun K hK=>?_)
     go_simp
     refine hK.out _ _ ?_;clear hK K
     try simp only [putsD,Act.put,zqa,zqb,zqc,zqd,zqe,zqf]
     refine wpAny_one1 13 (by kernel_rfl) rfl (fun K hK=>?_);have c0:=Z.r2.cell (i:=0) (by decide);have c1:=Z.r2.cell (i:=1) (by decide);have z0:=Z.r2.frozen 0;have z1:=Z.r2.frozen 1
     go_simp
     refine hK.out _ _ ?_;clear hK K c0 c1 z0 z1
     try simp only [putsD,Act.put,zqa,zqb,zqc,zqd,zqe,zqf]
     replace r20:=rowTwo r20 (Z.n2 b20) (.slice (some ⟨X20,0,none⟩) 4 4) (.slice (some ⟨X25,0,none⟩) 4 4);replace r25:=rowTwo r25 (Z.n2 b25) (.slice (some ⟨X20,0,none⟩) 4 4) (.slice (some ⟨X25,0,none⟩) 4 4);replace Z:=Z.put2 (.slice (some ⟨X20,0,none⟩) 4 4) (.slice (some ⟨X25,0,none⟩) 4 4);obtain ⟨Wfnnnn,hWn⟩:∃ W,(Wfnnn.setCell ⟨w.heap.size+1,0,none⟩ (.slice (some ⟨X20,0,none⟩) 4 4)).setCell ⟨w.heap.size+1,1,none⟩ (.slice (some ⟨X25,0,none⟩) 4 4)=W:=⟨_,rfl⟩;rw [hWn] at Z r20 r25 ⊢;clear hWn;refine wpAny_end (by kernel_rfl) ?_ _
     try go_wp2
     go_meet
     exact ⟨X20,X25,Z.r1,Z.r2,r20,r25,Z.sm,Z.bl⟩
  ·refine FinOk.intro [(0,some 15),(1,some 16),(2,some 17),(3,some 18),(4,some 19),(6,some 21),(7,some 22),(8,some 23),(9,some 24),(11,some 26)] #[true,true,true,true,true,false,true,true,true,true,false,true,false,false] 4 (by kernel_rfl) (by kernel_rfl) (by kernel_rfl) ?_;intro vs Wf hW0 hd hbk hdis kf;have hW:=zqw hW0;have d0:vs 0 = .agg #[.int .i64 3,.slice (some ⟨gn,0,none⟩) 7 7]:=hd 0 (by decide);have d1:vs 1 = .agg #[.string (natB 0),.string (natB 1)]:=hd 1 (by decide);have d2:vs 2 = .agg #[.string (natB 1),.string (natB 3)]:=hd 2 (by decide);have d3:vs 3 = .agg #[.string (natB 1),.string (natB 2)]:=hd 3 (by decide);have d4:vs 4 = .agg #[.string (natB 1),.string (natB 1)]:=hd 4 (by decide);have d6:vs 6 = .agg #[.string (natB 0),.string (natB 1)]:=hd 6 (by decide);have d7:vs 7 = .agg #[.string (natB 2),.string (natB 3)]:=hd 7 (by decide);have d8:vs 8 = .agg #[.string (natB 1),.string (natB 2)]:=hd 8 (by decide);have d9:vs 9 = .agg #[.string (natB 3),.string (natB 1)]:=hd 9 (by decide);obtain ⟨XA,XB,d11,⟨bA,bB⟩,rA,rB⟩:∃ X Y,vs 11 = .agg #[.slice (some ⟨X,0,none⟩) 4 4,.slice (some ⟨Y,0,none⟩) 4 4]∧(wc.heap.size≤X∧wc.heap.size≤Y)∧World.rowIs Wf X 33 8 (arrF #[.string (natB 0),.string (natB 1),.string (natB 1),.string (natB 3),.string (natB 1),.string (natB 2),.string (natB 1),.string (natB 1)])∧World.rowIs Wf Y 33 8 (arrF #[.string (natB 0),.string (natB 1),.string (natB 2),.string (natB 3),.string (natB 1),.string (natB 2),.string (natB 3),.string (natB 1)]):=hd 11 (by decide);clear hd hbk hdis hW0
   try simp only [d0,d1,d2,d3,d4,d6,d7,d8,d9,d11,putsD,Act.put,zqa,zqb,zqc,zqd,zqe,zqf]
   clear d0 d1 d2 d3 d4 d6 d7 d8 d9 d11 vs HS;have Z:SmZ w wc gn b2 b5 b6 #[.int .i64 0,.slice none 0 0] #[.slice none 0 0,.slice none 0 0] Wf:=⟨zqx HBL.out hW HBL.out.size,HNT.out.below hW,HBS.out,rowBelow HR1.out hW,rowBelow HR2.out hW,HR2.out.lt,hW.size⟩;refine wpAny_three3 5 10 12 (by kernel_rfl) rfl rfl rfl (fun K hK=>?_) (fun K hK=>?_) (fun K hK=>?_)
   ·go_simp
    refine hK.out _ _ ?_;clear hK K
    try simp only [putsD,Act.put,zqa,zqb,zqc,zqd,zqe,zqf]
    replace rA:=rA.alloc (.cells #[.string (natB 0),.string (natB 1),.string (natB 1),.string (natB 3),.string (natB 1),.string (natB 2),.string (natB 1),.string (natB 1)] 33);replace rB:=rB.alloc (.cells #[.string (natB 0),.string (natB 1),.string (natB 1),.string (natB 3),.string (natB 1),.string (natB 2),.string (natB 1),.string (natB 1)] 33);have r20:=arrNew Wf #[.string (natB 0),.string (natB 1),.string (natB 1),.string (natB 3),.string (natB 1),.string (natB 2),.string (natB 1),.string (natB 1)] 33 _ 8 rfl rfl;have b20:=Z.le;replace Z:=Z.alloc (.cells #[.string (natB 0),.string (natB 1),.string (natB 1),.string (natB 3),.string (natB 1),.string (natB 2),.string (natB 1),.string (natB 1)] 33);obtain ⟨X20,hX⟩:∃ X,Wf.heap.size=X:=⟨_,rfl⟩;rw [hX] at r20 b20 ⊢;clear hX;obtain ⟨Wfn,hWn⟩:∃ W,Wf.alloc (.cells #[.string (natB 0),.string (natB 1),.string (natB 1),.string (natB 3),.string (natB 1),.string (natB 2),.string (natB 1),.string (natB 1)] 33)=W:=⟨_,rfl⟩;rw [hWn] at Z r20 rA rB ⊢;clear hWn;refine wpAny_two2 10 12 (by kernel_rfl) rfl rfl (fun K hK=>?_) (fun K hK=>?_)
    ·go_simp
     refine hK.out _ _ ?_;clear hK K
     try simp only [putsD,Act.put,zqa,zqb,zqc,zqd,zqe,zqf]
     replace r20:=r20.alloc (.cells #[.string (natB 0),.string (natB 1),.string (natB 2),.string (natB 3),.string (natB 1),.string (natB 2),.string (natB 3),.string (natB 1)] 33);replace rA:=rA.alloc (.cells #[.string (natB 0),.string (natB 1),.string (natB 2),.string (natB 3),.string (natB 1),.string (natB 2),.string (natB 3),.string (natB 1)] 33);replace rB:=rB.alloc (.cells #[.string (natB 0),.string (natB 1),.string (natB 2),.string (natB 3),.string (natB 1),.string (natB 2),.string (natB 3),.string (natB 1)] 33);have r25:=arrNew Wfn #[.string (natB 0),.string (natB 1),.string (natB 2),.string (natB 3),.string (natB 1),.string (natB 2),.string (natB 3),.string (natB 1)] 33 _ 8 rfl rfl;have b25:=Z.le;replace Z:=Z.alloc (.cells #[.string (natB 0),.string (natB 1),.string (natB 2),.string (natB 3),.string (natB 1),.string (natB 2),.string (natB 3),.string (natB 1)] 33);obtain ⟨X25,hX⟩:∃ X,Wfn.heap.size=X:=⟨_,rfl⟩;rw [hX] at r25 b25 ⊢;clear hX;obtain ⟨Wfnn,hWn⟩:∃ W,Wfn.alloc (.cells #[.string (natB 0),.string (natB 1),.string (natB 2),.string (natB 3),.string (natB 1),.string (natB 2),.string (natB 3),.string (natB 1)] 33)=W:=⟨_,rfl⟩;rw [hWn] at Z r20 r25 rA rB ⊢;clear hWn;refine wpAny_one1 12 (by kernel_rfl) rfl (fun K hK=>?_);have c0:=Z.r1.cell (i:=0) (by decide);have c1:=Z.r1.cell (i:=1) (by decide);have z0:=Z.r1.frozen 0;have z1:=Z.r1.frozen 1
     go_simp
     refine hK.out _ _ ?_;clear hK K c0 c1 z0 z1
     try simp only [putsD,Act.put,zqa,zqb,zqc,zqd,zqe,zqf]
     replace r20:=rowTwo r20 (Z.n1 b20) (.int .i64 3) (.slice (some ⟨gn,0,none⟩) 7 7);replace r25:=rowTwo r25 (Z.n1 b25) (.int .i64 3) (.slice (some ⟨gn,0,none⟩) 7 7);replace rA:=rowTwo rA (Z.n1 bA) (.int .i64 3) (.slice (some ⟨gn,0,none⟩) 7 7);replace rB:=rowTwo rB (Z.n1 bB) (.int .i64 3) (.slice (some ⟨gn,0,none⟩) 7 7);replace Z:=Z.put1 (.int .i64 3) (.slice (some ⟨gn,0,none⟩) 7 7);obtain ⟨Wfnnn,hWn⟩:∃ W,(Wfnn.setCell ⟨w.heap.size,0,none⟩ (.int .i64 3)).setCell ⟨w.heap.size,1,none⟩ (.slice (some ⟨gn,0,none⟩) 7 7)=W:=⟨_,rfl⟩;rw [hWn] at Z r20 r25 rA rB ⊢;clear hWn;refine wpAny_one1 13 (by kernel_rfl) rfl (fun K hK=>?_);have c0:=Z.r2.cell (i:=0) (by decide);have c1:=Z.r2.cell (i:=1) (by decide);have z0:=Z.r2.frozen 0;have z1:=Z.r2.frozen 1
     go_simp
     refine hK.out _ _ ?_;clear hK K c0 c1 z0 z1
     try simp only [putsD,Act.put,zqa,zqb,zqc,zqd,zqe,zqf]
     replace r20:=rowTwo r20 (Z.n2 b20) (.slice (some ⟨XA,0,none⟩) 4 4) (.slice (some ⟨XB,0,none⟩) 4 4);replace r25:=rowTwo r25 (Z.n2 b25) (.slice (some ⟨XA,0,none⟩) 4 4) (.slice (some ⟨XB,0,none⟩) 4 4);replace rA:=rowTwo rA (Z.n2 bA) (.slice (some ⟨XA,0,none⟩) 4 4) (.slice (some ⟨XB,0,none⟩) 4 4);replace rB:=rowTwo rB (Z.n2 bB) (.slice (some ⟨XA,0,none⟩) 4 4) (.slice (some ⟨XB,0,none⟩) 4 4);replace Z:=Z.put2 (.slice (some ⟨XA,0,none⟩) 4 4) (.slice (some ⟨XB,0,none⟩) 4 4);obtain ⟨Wfnnnn,hWn⟩:∃ W,(Wfnnn.setCell ⟨w.heap.size+1,0,none⟩ (.slice (some ⟨XA,0,none⟩) 4 4)).setCell ⟨w.heap.size+1,1,none⟩ (.slice (some ⟨XB,0,none⟩) 4 4)=W:=⟨_,rfl⟩;rw [hWn] at Z r20 r25 rA rB ⊢;clear hWn;refine wpAny_end (by kernel_rfl) ?_ _
     try go_wp2
     go_meet
     exact ⟨XA,XB,Z.r1,Z.r2,rA,rB,Z.sm,Z.bl⟩
    ·have c0:=Z.r1.cell (i:=0) (by decide);have c1:=Z.r1.cell (i:=1) (by decide);have z0:=Z.r1.frozen 0;have z1:=Z.r1.frozen 1
     go_simp
     refine hK.out _ _ ?_;clear hK K c0 c1 z0 z1
     try simp only [putsD,Act.put,zqa,zqb,zqc,zqd,zqe,zqf]
     replace r20:=rowTwo r20 (Z.n1 b20) (.int .i64 3) (.slice (some ⟨gn,0,none⟩) 7 7);replace rA:=rowTwo rA (Z.n1 bA) (.int .i64 3) (.slice (some ⟨gn,0,none⟩) 7 7);replace rB:=rowTwo rB (Z.n1 bB) (.int .i64 3) (.slice (some ⟨gn,0,none⟩) 7 7);replace Z:=Z.put1 (.int .i64 3) (.slice (some ⟨gn,0,none⟩) 7 7);obtain ⟨Wfnn,hWn⟩:∃ W,(Wfn.setCell ⟨w.heap.size,0,none⟩ (.int .i64 3)).setCell ⟨w.heap.size,1,none⟩ (.slice (some ⟨gn,0,none⟩) 7 7)=W:=⟨_,rfl⟩;rw [hWn] at Z r20 rA rB ⊢;clear hWn;refine wpAny_one1 10 (by kernel_rfl) rfl (fun K hK=>?_)
     go_simp
     refine hK.out _ _ ?_;clear hK K
     try simp only [putsD,Act.put,zqa,zqb,zqc,zqd,zqe,zqf]
     replace r20:=r20.alloc (.cells #[.string (natB 0),.string (natB 1),.string (natB 2),.string (natB 3),.string (natB 1),.string (natB 2),.string (natB 3),.string (natB 1)] 33);replace rA:=rA.alloc (.cells #[.string (natB 0),.string (natB 1),.string (natB 2),.string (natB 3),.string (natB 1),.string (natB 2),.string (natB 3),.string (natB 1)] 33);replace rB:=rB.alloc (.cells #[.string (natB 0),.string (natB 1),.string (natB 2),.string (natB 3),.string (natB 1),.string (natB 2),.string (natB 3),.string (natB 1)] 33);have r25:=arrNew Wfnn #[.string (natB 0),.string (natB 1),.string (natB 2),.string (natB 3),.string (natB 1),.string (natB 2),.string (natB 3),.string (natB 1)] 33 _ 8 rfl rfl;have b25:=Z.le;replace Z:=Z.alloc (.cells #[.string (natB 0),.string (natB 1),.string (natB 2),.string (natB 3),.string (natB 1),.string (natB 2),.string (natB 3),.string (natB 1)] 33);obtain ⟨X25,hX⟩:∃ X,Wfnn.heap.size=X:=⟨_,rfl⟩;rw [hX] at r25 b25 ⊢;clear hX;obtain ⟨Wfnnn,hWn⟩:∃ W,Wfnn.alloc (.cells #[.string (natB 0),.string (natB 1),.string (natB 2),.string (natB 3),.string (natB 1),.string (natB 2),.string (natB 3),.string (natB 1)] 33)=W:=⟨_,rfl⟩;rw [hWn] at Z r20 r25 rA rB ⊢;clear hWn;refine wpAny_one1 13 (by kernel_rfl) rfl (fun K hK=>?_);have c0:=Z.r2.cell (i:=0) (by decide);have c1:=Z.r2.cell (i:=1) (by decide);have z0:=Z.r2.frozen 0;have z1:=Z.r2.frozen 1
     go_simp
     refine hK.out _ _ ?_;clear hK K c0 c1 z0 z1
     try simp only [putsD,Act.put,zqa,zqb,zqc,zqd,zqe,zqf]
     replace r20:=rowTwo r20 (Z.n2 b20) (.slice (some ⟨XA,0,none⟩) 4 4) (.slice (some ⟨XB,0,none⟩) 4 4);replace r25:=rowTwo r25 (Z.n2 b25) (.slice (some ⟨XA,0,none⟩) 4 4) (.slice (some ⟨XB,0,none⟩) 4 4);replace rA:=rowTwo rA (Z.n2 bA) (.slice (some ⟨XA,0,none⟩) 4 4) (.slice (some ⟨XB,0,none⟩) 4 4);replace rB:=rowTwo rB (Z.n2 bB) (.slice (some ⟨XA,0,none⟩) 4 4) (.slice (some ⟨XB,0,none⟩) 4 4);replace Z:=Z.put2 (.slice (some ⟨XA,0,none⟩) 4 4) (.slice (some ⟨XB,0,none⟩) 4 4);obtain ⟨Wfnnnn,hWn⟩:∃ W,(Wfnnn.setCell ⟨w.heap.size+1,0,none⟩ (.slice (some ⟨XA,0,none⟩) 4 4)).setCell ⟨w.heap.size+1,1,none⟩ (.slice (some ⟨XB,0,none⟩) 4 4)=W:=⟨_,rfl⟩;rw [hWn] at Z r20 r25 rA rB ⊢;clear hWn;refine wpAny_end (by kernel_rfl) ?_ _
     try go_wp2
     go_meet
     exact ⟨XA,XB,Z.r1,Z.r2,rA,rB,Z.sm,Z.bl⟩
   ·go_simp
    refine hK.out _ _ ?_;clear hK K
    try simp only [putsD,Act.put,zqa,zqb,zqc,zqd,zqe,zqf]
    replace rA:=rA.alloc (.cells #[.string (natB 0),.string (natB 1),.string (natB 2),.string (natB 3),.string (natB 1),.string (natB 2),.string (natB 3),.string (natB 1)] 33);replace rB:=rB.alloc (.cells #[.string (natB 0),.string (natB 1),.string (natB 2),.string (natB 3),.string (natB 1),.string (natB 2),.string (natB 3),.string (natB 1)] 33);have r25:=arrNew Wf #[.string (natB 0),.string (natB 1),.string (natB 2),.string (natB 3),.string (natB 1),.string (natB 2),.string (natB 3),.string (natB 1)] 33 _ 8 rfl rfl;have b25:=Z.le;replace Z:=Z.alloc (.cells #[.string (natB 0),.string (natB 1),.string (natB 2),.string (natB 3),.string (natB 1),.string (natB 2),.string (natB 3),.string (natB 1)] 33);obtain ⟨X25,hX⟩:∃ X,Wf.heap.size=X:=⟨_,rfl⟩;rw [hX] at r25 b25 ⊢;clear hX;obtain ⟨Wfn,hWn⟩:∃ W,Wf.alloc (.cells #[.string (natB 0),.string (natB 1),.string (natB 2),.string (natB 3),.string (natB 1),.string (natB 2),.string (natB 3),.string (natB 1)] 33)=W:=⟨_,rfl⟩;rw [hWn] at Z r25 rA rB ⊢;clear hWn;refine wpAny_two2 5 12 (by kernel_rfl) rfl rfl (fun K hK=>?_) (fun K hK=>?_)
    ·go_simp
     refine hK.out _ _ ?_;clear hK K
     try simp only [putsD,Act.put,zqa,zqb,zqc,zqd,zqe,zqf]
     replace r25:=r25.alloc (.cells #[.string (natB 0),.string (natB 1),.string (natB 1),.string (natB 3),.string (natB 1),.string (natB 2),.string (natB 1),.string (natB 1)] 33);replace rA:=rA.alloc (.cells #[.string (natB 0),.string (natB 1),.string (natB 1),.string (natB 3),.string (natB 1),.string (natB 2),.string (natB 1),.string (natB 1)] 33);replace rB:=rB.alloc (.cells #[.string (natB 0),.string (natB 1),.string (natB 1),.string (natB 3),.string (natB 1),.string (natB 2),.string (natB 1),.string (natB 1)] 33);have r20:=arrNew Wfn #[.string (natB 0),.string (natB 1),.string (natB 1),.string (natB 3),.string (natB 1),.string (natB 2),.string (natB 1),.string (natB 1)] 33 _ 8 rfl rfl;have b20:=Z.le;replace Z:=Z.alloc (.cells #[.string (natB 0),.string (natB 1),.string (natB 1),.string (natB 3),.string (natB 1),.string (natB 2),.string (natB 1),.string (natB 1)] 33);obtain ⟨X20,hX⟩:∃ X,Wfn.heap.size=X:=⟨_,rfl⟩;rw [hX] at r20 b20 ⊢;clear hX;obtain ⟨Wfnn,hWn⟩:∃ W,Wfn.alloc (.cells #[.string (natB 0),.string (natB 1),.string (natB 1),.string (natB 3),.string (natB 1),.string (natB 2),.string (natB 1),.string (natB 1)] 33)=W:=⟨_,rfl⟩;rw [hWn] at Z r20 r25 rA rB ⊢;clear hWn;refine wpAny_one1 12 (by kernel_rfl) rfl (fun K hK=>?_);have c0:=Z.r1.cell (i:=0) (by decide);have c1:=Z.r1.cell (i:=1) (by decide);have z0:=Z.r1.frozen 0;have z1:=Z.r1.frozen 1
     go_simp
     refine hK.out _ _ ?_;clear hK K c0 c1 z0 z1
     try simp only [putsD,Act.put,zqa,zqb,zqc,zqd,zqe,zqf]
     replace r20:=rowTwo r20 (Z.n1 b20) (.int .i64 3) (.slice (some ⟨gn,0,none⟩) 7 7);replace r25:=rowTwo r25 (Z.n1 b25) (.int .i64 3) (.slice (some ⟨gn,0,none⟩) 7 7);replace rA:=rowTwo rA (Z.n1 bA) (.int .i64 3) (.slice (some ⟨gn,0,none⟩) 7 7);replace rB:=rowTwo rB (Z.n1 bB) (.int .i64 3) (.slice (some ⟨gn,0,none⟩) 7 7);replace Z:=Z.put1 (.int .i64 3) (.slice (some ⟨gn,0,none⟩) 7 7);obtain ⟨Wfnnn,hWn⟩:∃ W,(Wfnn.setCell ⟨w.heap.size,0,none⟩ (.int .i64 3)).setCell ⟨w.heap.size,1,none⟩ (.slice (some ⟨gn,0,none⟩) 7 7)=W:=⟨_,rfl⟩;rw [hWn] at Z r20 r25 rA rB ⊢;clear hWn;refine wpAny_one1 13 (by kernel_rfl) rfl (fun K hK=>?_);have c0:=Z.r2.cell (i:=0) (by decide);have c1:=Z.r2.cell (i:=1) (by decide);have z0:=Z.r2.frozen 0;have z1:=Z.r2.frozen 1
     go_simp
     refine hK.out _ _ ?_;clear hK K c0 c1 z0 z1
     try simp only [putsD,Act.put,zqa,zqb,zqc,zqd,zqe,zqf]
     replace r20:=rowTwo r20 (Z.n2 b20) (.slice (some ⟨XA,0,none⟩) 4 4) (.slice (some ⟨XB,0,none⟩) 4 4);replace r25:=rowTwo r25 (Z.n2 b25) (.slice (some ⟨XA,0,none⟩) 4 4) (.slice (some ⟨XB,0,none⟩) 4 4);replace rA:=rowTwo rA (Z.n2 bA) (.slice (some ⟨XA,0,none⟩) 4 4) (.slice (some ⟨XB,0,none⟩) 4 4);replace rB:=rowTwo rB (Z.n2 bB) (.slice (some ⟨XA,0,none⟩) 4 4) (.slice (some ⟨XB,0,none⟩) 4 4);replace Z:=Z.put2 (.slice (some ⟨XA,0,none⟩) 4 4) (.slice (some ⟨XB,0,none⟩) 4 4);obtain ⟨Wfnnnn,hWn⟩:∃ W,(Wfnnn.setCell ⟨w.heap.size+1,0,none⟩ (.slice (some ⟨XA,0,none⟩) 4 4)).setCell ⟨w.heap.size+1,1,none⟩ (.slice (some ⟨XB,0,none⟩) 4 4)=W:=⟨_,rfl⟩;rw [hWn] at Z r20 r25 rA rB ⊢;clear hWn;refine wpAny_end (by kernel_rfl) ?_ _
     try go_wp2
     go_meet
     exact ⟨XA,XB,Z.r1,Z.r2,rA,rB,Z.sm,Z.bl⟩
    ·have c0:=Z.r1.cell (i:=0) (by decide);have c1:=Z.r1.cell (i:=1) (by decide);have z0:=Z.r1.frozen 0;have z1:=Z.r1.frozen 1
     go_simp
     refine hK.out _ _ ?_;clear hK K c0 c1 z0 z1
     try simp only [putsD,Act.put,zqa,zqb,zqc,zqd,zqe,zqf]
     replace r25:=rowTwo r25 (Z.n1 b25) (.int .i64 3) (.slice (some ⟨gn,0,none⟩) 7 7);replace rA:=rowTwo rA (Z.n1 bA) (.int .i64 3) (.slice (some ⟨gn,0,none⟩) 7 7);replace rB:=rowTwo rB (Z.n1 bB) (.int .i64 3) (.slice (some ⟨gn,0,none⟩) 7 7);replace Z:=Z.put1 (.int .i64 3) (.slice (some ⟨gn,0,none⟩) 7 7);obtain ⟨Wfnn,hWn⟩:∃ W,(Wfn.setCell ⟨w.heap.size,0,none⟩ (.int .i64 3)).setCell ⟨w.heap.size,1,none⟩ (.slice (some ⟨gn,0,none⟩) 7 7)=W:=⟨_,rfl⟩;rw [hWn] at Z r25 rA rB ⊢;clear hWn;refine wpAny_one1 5 (by kernel_rfl) rfl (fun K hK=>?_)
     go_simp
     refine hK.out _ _ ?_;clear hK K
     try simp only [putsD,Act.put,zqa,zqb,zqc,zqd,zqe,zqf]
     replace r25:=r25.alloc (.cells #[.string (natB 0),.string (natB 1),.string (natB 1),.string (natB 3),.string (natB 1),.string (natB 2),.string (natB 1),.string (natB 1)] 33);replace rA:=rA.alloc (.cells #[.string (natB 0),.string (natB 1),.string (natB 1),.string (natB 3),.string (natB 1),.string (natB 2),.string (natB 1),.string (natB 1)] 33);replace rB:=rB.alloc (.cells #[.string (natB 0),.string (natB 1),.string (natB 1),.string (natB 3),.string (natB 1),.string (natB 2),.string (natB 1),.string (natB 1)] 33);have r20:=arrNew Wfnn #[.string (natB 0),.string (natB 1),.string (natB 1),.string (natB 3),.string (natB 1),.string (natB 2),.string (natB 1),.string (natB 1)] 33 _ 8 rfl rfl;have b20:=Z.le;replace Z:=Z.alloc (.cells #[.string (natB 0),.string (natB 1),.string (natB 1),.string (natB 3),.string (natB 1),.string (natB 2),.string (natB 1),.string (natB 1)] 33);obtain ⟨X20,hX⟩:∃ X,Wfnn.heap.size=X:=⟨_,rfl⟩;rw [hX] at r20 b20 ⊢;clear hX;obtain ⟨Wfnnn,hWn⟩:∃ W,Wfnn.alloc (.cells #[.string (natB 0),.string (natB 1),.string (natB 1),.string (natB 3),.string (natB 1),.string (natB 2),.string (natB 1),.string (natB 1)] 33)=W:=⟨_,rfl⟩;rw [hWn] at Z r20 r25 rA rB ⊢;clear hWn;refine wpAny_one1 13 (by kernel_rfl) rfl (fun K hK=>?_);have c0:=Z.r2.cell (i:=0) (by decide);have c1:=Z.r2.cell (i:=1) (by decide);have z0:=Z.r2.frozen 0;have z1:=Z.r2.frozen 1
     go_simp
     refine hK.out _ _ ?_;clear hK K c0 c1 z0 z1
     try simp only [putsD,Act.put,zqa,zqb,zqc,zqd,zqe,zqf]
     replace r20:=rowTwo r20 (Z.n2 b20) (.slice (some ⟨XA,0,none⟩) 4 4) (.slice (some ⟨XB,0,none⟩) 4 4);replace r25:=rowTwo r25 (Z.n2 b25) (.slice (some ⟨XA,0,none⟩) 4 4) (.slice (some ⟨XB,0,none⟩) 4 4);replace rA:=rowTwo rA (Z.n2 bA) (.slice (some ⟨XA,0,none⟩) 4 4) (.slice (some ⟨XB,0,none⟩) 4 4);replace rB:=rowTwo rB (Z.n2 bB) (.slice (some ⟨XA,0,none⟩) 4 4) (.slice (some ⟨XB,0,none⟩) 4 4);replace Z:=Z.put2 (.slice (some ⟨XA,0,none⟩) 4 4) (.slice (some ⟨XB,0,none⟩) 4 4);obtain ⟨Wfnnnn,hWn⟩:∃ W,(Wfnnn.setCell ⟨w.heap.size+1,0,none⟩ (.slice (some ⟨XA,0,none⟩) 4 4)).setCell ⟨w.heap.size+1,1,none⟩ (.slice (some ⟨XB,0,none⟩) 4 4)=W:=⟨_,rfl⟩;rw [hWn] at Z r20 r25 rA rB ⊢;clear hWn;refine wpAny_end (by kernel_rfl) ?_ _
     try go_wp2
     go_meet
     exact ⟨XA,XB,Z.r1,Z.r2,rA,rB,Z.sm,Z.bl⟩
   ·have c0:=Z.r1.cell (i:=0) (by decide);have c1:=Z.r1.cell (i:=1) (by decide);have z0:=Z.r1.frozen 0;have z1:=Z.r1.frozen 1
    go_simp
    refine hK.out _ _ ?_;clear hK K c0 c1 z0 z1
    try simp only [putsD,Act.put,zqa,zqb,zqc,zqd,zqe,zqf]
    replace rA:=rowTwo rA (Z.n1 bA) (.int .i64 3) (.slice (some ⟨gn,0,none⟩) 7 7);replace rB:=rowTwo rB (Z.n1 bB) (.int .i64 3) (.slice (some ⟨gn,0,none⟩) 7 7);replace Z:=Z.put1 (.int .i64 3) (.slice (some ⟨gn,0,none⟩) 7 7);obtain ⟨Wfn,hWn⟩:∃ W,(Wf.setCell ⟨w.heap.size,0,none⟩ (.int .i64 3)).setCell ⟨w.heap.size,1,none⟩ (.slice (some ⟨gn,0,none⟩) 7 7)=W:=⟨_,rfl⟩;rw [hWn] at Z rA rB ⊢;clear hWn;refine wpAny_two2 5 10 (by kernel_rfl) rfl rfl (fun K hK=>?_) (fun K hK=>?_)
    ·go_simp
     refine hK.out _ _ ?_;clear hK K
     try simp only [putsD,Act.put,zqa,zqb,zqc,zqd,zqe,zqf]
     replace rA:=rA.alloc (.cells #[.string (natB 0),.string (natB 1),.string (natB 1),.string (natB 3),.string (natB 1),.string (natB 2),.string (natB 1),.string (natB 1)] 33);replace rB:=rB.alloc (.cells #[.string (natB 0),.string (natB 1),.string (natB 1),.string (natB 3),.string (natB 1),.string (natB 2),.string (natB 1),.string (natB 1)] 33);have r20:=arrNew Wfn #[.string (natB 0),.string (natB 1),.string (natB 1),.string (natB 3),.string (natB 1),.string (natB 2),.string (natB 1),.string (natB 1)] 33 _ 8 rfl rfl;have b20:=Z.le;replace Z:=Z.alloc (.cells #[.string (natB 0),.string (natB 1),.string (natB 1),.string (natB 3),.string (natB 1),.string (natB 2),.string (natB 1),.string (natB 1)] 33);obtain ⟨X20,hX⟩:∃ X,Wfn.heap.size=X:=⟨_,rfl⟩;rw [hX] at r20 b20 ⊢;clear hX;obtain ⟨Wfnn,hWn⟩:∃ W,Wfn.alloc (.cells #[.string (natB 0),.string (natB 1),.string (natB 1),.string (natB 3),.string (natB 1),.string (natB 2),.string (natB 1),.string (natB 1)] 33)=W:=⟨_,rfl⟩;rw [hWn] at Z r20 rA rB ⊢;clear hWn;refine wpAny_one1 10 (by kernel_rfl) rfl (fun K hK=>?_)
     go_simp
     refine hK.out _ _ ?_;clear hK K
     try simp only [putsD,Act.put,zqa,zqb,zqc,zqd,zqe,zqf]
     replace r20:=r20.alloc (.cells #[.string (natB 0),.string (natB 1),.string (natB 2),.string (natB 3),.string (natB 1),.string (natB 2),.string (natB 3),.string (natB 1)] 33);replace rA:=rA.alloc (.cells #[.string (natB 0),.string (natB 1),.string (natB 2),.string (natB 3),.string (natB 1),.string (natB 2),.string (natB 3),.string (natB 1)] 33);replace rB:=rB.alloc (.cells #[.string (natB 0),.string (natB 1),.string (natB 2),.string (natB 3),.string (natB 1),.string (natB 2),.string (natB 3),.string (natB 1)] 33);have r25:=arrNew Wfnn #[.string (natB 0),.string (natB 1),.string (natB 2),.string (natB 3),.string (natB 1),.string (natB 2),.string (natB 3),.string (natB 1)] 33 _ 8 rfl rfl;have b25:=Z.le;replace Z:=Z.alloc (.cells #[.string (natB 0),.string (natB 1),.string (natB 2),.string (natB 3),.string (natB 1),.string (natB 2),.string (natB 3),.string (natB 1)] 33);obtain ⟨X25,hX⟩:∃ X,Wfnn.heap.size=X:=⟨_,rfl⟩;rw [hX] at r25 b25 ⊢;clear hX;obtain ⟨Wfnnn,hWn⟩:∃ W,Wfnn.alloc (.cells #[.string (natB 0),.string (natB 1),.string (natB 2),.string (natB 3),.string (natB 1),.string (natB 2),.string (natB 3),.string (natB 1)] 33)=W:=⟨_,rfl⟩;rw [hWn] at Z r20 r25 rA rB ⊢;clear hWn;refine wpAny_one1 13 (by kernel_rfl) rfl (fun K hK=>?_);have c0:=Z.r2.cell (i:=0) (by decide);have c1:=Z.r2.cell (i:=1) (by decide);have z0:=Z.r2.frozen 0;have z1:=Z.r2.frozen 1
     go_simp
     refine hK.out _ _ ?_;clear hK K c0 c1 z0 z1
     try simp only [putsD,Act.put,zqa,zqb,zqc,zqd,zqe,zqf]
     replace r20:=rowTwo r20 (Z.n2 b20) (.slice (some ⟨XA,0,none⟩) 4 4) (.slice (some ⟨XB,0,none⟩) 4 4);replace r25:=rowTwo r25 (Z.n2 b25) (.slice (some ⟨XA,0,none⟩) 4 4) (.slice (some ⟨XB,0,none⟩) 4 4);replace rA:=rowTwo rA (Z.n2 bA) (.slice (some ⟨XA,0,none⟩) 4 4) (.slice (some ⟨XB,0,none⟩) 4 4);replace rB:=rowTwo rB (Z.n2 bB) (.slice (some ⟨XA,0,none⟩) 4 4) (.slice (some ⟨XB,0,none⟩) 4 4);replace Z:=Z.put2 (.slice (some ⟨XA,0,none⟩) 4 4) (.slice (some ⟨XB,0,none⟩) 4 4);obtain ⟨Wfnnnn,hWn⟩:∃ W,(Wfnnn.setCell ⟨w.heap.size+1,0,none⟩ (.slice (some ⟨XA,0,none⟩) 4 4)).setCell ⟨w.heap.size+1,1,none⟩ (.slice (some ⟨XB,0,none⟩) 4 4)=W:=⟨_,rfl⟩;rw [hWn] at Z r20 r25 rA rB ⊢;clear hWn;refine wpAny_end (by kernel_rfl) ?_ _
     try go_wp2
     go_meet
     exact ⟨XA,XB,Z.r1,Z.r2,rA,rB,Z.sm,Z.bl⟩
    ·go_simp
     refine hK.out _ _ ?_;clear hK K
     try simp only [putsD,Act.put,zqa,zqb,zqc,zqd,zqe,zqf]
     replace rA:=rA.alloc (.cells #[.string (natB 0),.string (natB 1),.string (natB 2),.string (natB 3),.string (natB 1),.string (natB 2),.string (natB 3),.string (natB 1)] 33);replace rB:=rB.alloc (.cells #[.string (natB 0),.string (natB 1),.string (natB 2),.string (natB 3),.string (natB 1),.string (natB 2),.string (natB 3),.string (natB 1)] 33);have r25:=arrNew Wfn #[.string (natB 0),.string (natB 1),.string (natB 2),.string (natB 3),.string (natB 1),.string (natB 2),.string (natB 3),.string (natB 1)] 33 _ 8 rfl rfl;have b25:=Z.le;replace Z:=Z.alloc (.cells #[.string (natB 0),.string (natB 1),.string (natB 2),.string (natB 3),.string (natB 1),.string (natB 2),.string (natB 3),.string (natB 1)] 33);obtain ⟨X25,hX⟩:∃ X,Wfn.heap.size=X:=⟨_,rfl⟩;rw [hX] at r25 b25 ⊢;clear hX;obtain ⟨Wfnn,hWn⟩:∃ W,Wfn.alloc (.cells #[.string (natB 0),.string (natB 1),.string (natB 2),.string (natB 3),.string (natB 1),.string (natB 2),.string (natB 3),.string (natB 1)] 33)=W:=⟨_,rfl⟩;rw [hWn] at Z r25 rA rB ⊢;clear hWn;refine wpAny_one1 5 (by kernel_rfl) rfl (fun K hK=>?_)
     go_simp
     refine hK.out _ _ ?_;clear hK K
     try simp only [putsD,Act.put,zqa,zqb,zqc,zqd,zqe,zqf]
     replace r25:=r25.alloc (.cells #[.string (natB 0),.string (natB 1),.string (natB 1),.string (natB 3),.string (natB 1),.string (natB 2),.string (natB 1),.string (natB 1)] 33);replace rA:=rA.alloc (.cells #[.string (natB 0),.string (natB 1),.string (natB 1),.string (natB 3),.string (natB 1),.string (natB 2),.string (natB 1),.string (natB 1)] 33);replace rB:=rB.alloc (.cells #[.string (natB 0),.string (natB 1),.string (natB 1),.string (natB 3),.string (natB 1),.string (natB 2),.string (natB 1),.string (natB 1)] 33);have r20:=arrNew Wfnn #[.string (natB 0),.string (natB 1),.string (natB 1),.string (natB 3),.string (natB 1),.string (natB 2),.string (natB 1),.string (natB 1)] 33 _ 8 rfl rfl;have b20:=Z.le;replace Z:=Z.alloc (.cells #[.string (natB 0),.string (natB 1),.string (natB 1),.string (natB 3),.string (natB 1),.string (natB 2),.string (natB 1),.string (natB 1)] 33);obtain ⟨X20,hX⟩:∃ X,Wfnn.heap.size=X:=⟨_,rfl⟩;rw [hX] at r20 b20 ⊢;clear hX;obtain ⟨Wfnnn,hWn⟩:∃ W,Wfnn.alloc (.cells #[.string (natB 0),.string (natB 1),.string (natB 1),.string (natB 3),.string (natB 1),.string (natB 2),.string (natB 1),.string (natB 1)] 33)=W:=⟨_,rfl⟩;rw [hWn] at Z r20 r25 rA rB ⊢;clear hWn;refine wpAny_one1 13 (by kernel_rfl) rfl (fun K hK=>?_);have c0:=Z.r2.cell (i:=0) (by decide);have c1:=Z.r2.cell (i:=1) (by decide);have z0:=Z.r2.frozen 0;have z1:=Z.r2.frozen 1
     go_simp
     refine hK.out _ _ ?_;clear hK K c0 c1 z0 z1
     try simp only [putsD,Act.put,zqa,zqb,zqc,zqd,zqe,zqf]
     replace r20:=rowTwo r20 (Z.n2 b20) (.slice (some ⟨XA,0,none⟩) 4 4) (.slice (some ⟨XB,0,none⟩) 4 4);replace r25:=rowTwo r25 (Z.n2 b25) (.slice (some ⟨XA,0,none⟩) 4 4) (.slice (some ⟨XB,0,none⟩) 4 4);replace rA:=rowTwo rA (Z.n2 bA) (.slice (some ⟨XA,0,none⟩) 4 4) (.slice (some ⟨XB,0,none⟩) 4 4);replace rB:=rowTwo rB (Z.n2 bB) (.slice (some ⟨XA,0,none⟩) 4 4) (.slice (some ⟨XB,0,none⟩) 4 4);replace Z:=Z.put2 (.slice (some ⟨XA,0,none⟩) 4 4) (.slice (some ⟨XB,0,none⟩) 4 4);obtain ⟨Wfnnnn,hWn⟩:∃ W,(Wfnnn.setCell ⟨w.heap.size+1,0,none⟩ (.slice (some ⟨XA,0,none⟩) 4 4)).setCell ⟨w.heap.size+1,1,none⟩ (.slice (some ⟨XB,0,none⟩) 4 4)=W:=⟨_,rfl⟩;rw [hWn] at Z r20 r25 rA rB ⊢;clear hWn;refine wpAny_end (by kernel_rfl) ?_ _
     try go_wp2
     go_meet
     exact ⟨XA,XB,Z.r1,Z.r2,rA,rB,Z.sm,Z.bl⟩
  ·refine zfo [(0,some 15),(1,some 16),(2,some 17),(3,some 18),(4,some 19),(6,some 21),(7,some 22),(8,some 23),(9,some 24),(10,some 25)] #[true,true,true,true,true,false,true,true,true,true,true,false,false,false] 4 ?_;intro vs Wf hW hd hbk hdis kf;simp only [zdj,zqu,and_true,List.getD_cons_succ,List.getD_cons_zero] at hd;obtain ⟨d0,d1,d2,d3,d4,d6,d7,d8,d9,⟨X25,d10,b25,r25⟩⟩:=hd;clear hbk hdis
   try simp only [d0,d1,d2,d3,d4,d6,d7,d8,d9,d10,putsD,Act.put,zqa,zqb,zqc,zqd,zqe,zqf]
   clear d0 d1 d2 d3 d4 d6 d7 d8 d9 d10 vs HS;have Z:SmZ w wc gn b2 b5 b6 #[.int .i64 0,.slice none 0 0] #[.slice none 0 0,.slice none 0 0] Wf:=⟨zqx HBL.out hW HBL.out.size,HNT.out.below hW,HBS.out,rowBelow HR1.out hW,rowBelow HR2.out hW,HR2.out.lt,hW.size⟩;refine wpAny_two2 5 12 (by kernel_rfl) rfl rfl (fun K hK=>?_) (fun K hK=>?_)
   ·go_simp
    refine hK.out _ _ ?_;clear hK K
    try simp only [putsD,Act.put,zqa,zqb,zqc,zqd,zqe,zqf]
    replace r25:=r25.alloc (.cells #[.string (natB 0),.string (natB 1),.string (natB 1),.string (natB 3),.string (natB 1),.string (natB 2),.string (natB 1),.string (natB 1)] 33);have r20:=arrNew Wf #[.string (natB 0),.string (natB 1),.string (natB 1),.string (natB 3),.string (natB 1),.string (natB 2),.string (natB 1),.string (natB 1)] 33 _ 8 rfl rfl;have b20:=Z.le;replace Z:=Z.alloc (.cells #[.string (natB 0),.string (natB 1),.string (natB 1),.string (natB 3),.string (natB 1),.string (natB 2),.string (natB 1),.string (natB 1)] 33);obtain ⟨X20,hX⟩:∃ X,Wf.heap.size=X:=⟨_,rfl⟩;rw [hX] at r20 b20 ⊢;clear hX;obtain ⟨Wfn,hWn⟩:∃ W,Wf.alloc (.cells #[.string (natB 0),.string (natB 1),.string (natB 1),.string (natB 3),.string (natB 1),.string (natB 2),.string (natB 1),.string (natB 1)] 33)=W:=⟨_,rfl⟩;rw [hWn] at Z r20 r25 ⊢;clear hWn;refine wpAny_two2 11 12 (by kernel_rfl) rfl rfl (fun K hK=>?_) (fun K hK=>?_)
    ·go_simp
     refine hK.out _ _ ?_;clear hK K
     try simp only [putsD,Act.put,zqa,zqb,zqc,zqd,zqe,zqf]
     refine wpAny_one1 12 (by kernel_rfl) rfl (fun K hK=>?_);have c0:=Z.r1.cell (i:=0) (by decide);have c1:=Z.r1.cell (i:=1) (by decide);have z0:=Z.r1.frozen 0;have z1:=Z.r1.frozen 1
     go_simp
     refine hK.out _ _ ?_;clear hK K c0 c1 z0 z1
     try simp only [putsD,Act.put,zqa,zqb,zqc,zqd,zqe,zqf]
     replace r20:=rowTwo r20 (Z.n1 b20) (.int .i64 3) (.slice (some ⟨gn,0,none⟩) 7 7);replace r25:=rowTwo r25 (Z.n1 b25) (.int .i64 3) (.slice (some ⟨gn,0,none⟩) 7 7);replace Z:=Z.put1 (.int .i64 3) (.slice (some ⟨gn,0,none⟩) 7 7);obtain ⟨Wfnn,hWn⟩:∃ W,(Wfn.setCell ⟨w.heap.size,0,none⟩ (.int .i64 3)).setCell ⟨w.heap.size,1,none⟩ (.slice (some ⟨gn,0,none⟩) 7 7)=W:=⟨_,rfl⟩;rw [hWn] at Z r20 r25 ⊢;clear hWn;refine wpAny_one1 13 (by kernel_rfl) rfl (fun K hK=>?_);have c0:=Z.r2.cell (i:=0) (by decide);have c1:=Z.r2.cell (i:=1) (by decide);have z0:=Z.r2.frozen 0;have z1:=Z.r2.frozen 1
     go_simp
     refine hK.out _ _ ?_;clear hK K c0 c1 z0 z1
     try simp only [putsD,Act.put,zqa,zqb,zqc,zqd,zqe,zqf]
     replace r20:=rowTwo r20 (Z.n2 b20) (.slice (some ⟨X20,0,none⟩) 4 4) (.slice (some ⟨X25,0,none⟩) 4 4);replace r25:=rowTwo r25 (Z.n2 b25) (.slice (some ⟨X20,0,none⟩) 4 4) (.slice (some ⟨X25,0,none⟩) 4 4);replace Z:=Z.put2 (.slice (some ⟨X20,0,none⟩) 4 4) (.slice (some ⟨X25,0,none⟩) 4 4);obtain ⟨Wfnnn,hWn⟩:∃ W,(Wfnn.setCell ⟨w.heap.size+1,0,none⟩ (.slice (some ⟨X20,0,none⟩) 4 4)).setCell ⟨w.heap.size+1,1,none⟩ (.slice (some ⟨X25,0,none⟩) 4 4)=W:=⟨_,rfl⟩;rw [hWn] at Z r20 r25 ⊢;clear hWn;refine wpAny_end (by kernel_rfl) ?_ _
     try go_wp2
     go_meet
     exact ⟨X20,X25,Z.r1,Z.r2,r20,r25,Z.sm,Z.bl⟩
    ·have c0:=Z.r1.cell (i:=0) (by decide);have c1:=Z.r1.cell (i:=1) (by decide);have z0:=Z.r1.frozen 0;have z1:=Z.r1.frozen 1
     go_simp
     refine hK.out _ _ ?_;clear hK K c0 c1 z0 z1
     try simp only [putsD,Act.put,zqa,zqb,zqc,zqd,zqe,zqf]
     replace r20:=rowTwo r20 (Z.n1 b20) (.int .i64 3) (.slice (some ⟨gn,0,none⟩) 7 7);replace r25:=rowTwo r25 (Z.n1 b25) (.int .i64 3) (.slice (some ⟨gn,0,none⟩) 7 7);replace Z:=Z.put1 (.int .i64 3) (.slice (some ⟨gn,0,none⟩) 7 7);obtain ⟨Wfnn,hWn⟩:∃ W,(Wfn.setCell ⟨w.heap.size,0,none⟩ (.int .i64 3)).setCell ⟨w.heap.size,1,none⟩ (.slice (some ⟨gn,0,none⟩) 7 7)=W:=⟨_,rfl⟩;rw [hWn] at Z r20 r25 ⊢;clear hWn;refine wpAny_one1 11 (by kernel_rfl) rfl (fun K hK=>?_)
     go_simp
     refine hK.out _ _ ?_;clear hK K
     try simp only [putsD,Act.put,zqa,zqb,zqc,zqd,zqe,zqf]
     refine wpAny_one1 13 (by kernel_rfl) rfl (fun K hK=>?_);have c0:=Z.r2.cell (i:=0) (by decide);have c1:=Z.r2.cell (i:=1) (by decide);have z0:=Z.r2.frozen 0;have z1:=Z.r2.frozen 1
     go_simp
     refine hK.out _ _ ?_;clear hK K c0 c1 z0 z1
     try simp only [putsD,Act.put,zqa,zqb,zqc,zqd,zqe,zqf]
     replace r20:=rowTwo r20 (Z.n2 b20) (.slice (some ⟨X20,0,none⟩) 4 4) (.slice (some ⟨X25,0,none⟩) 4 4);replace r25:=rowTwo r25 (Z.n2 b25) (.slice (some ⟨X20,0,none⟩) 4 4) (.slice (some ⟨X25,0,none⟩) 4 4);replace Z:=Z.put2 (.slice (some ⟨X20,0,none⟩) 4 4) (.slice (some ⟨X25,0,none⟩) 4 4);obtain ⟨Wfnnn,hWn⟩:∃ W,(Wfnn.setCell ⟨w.heap.size+1,0,none⟩ (.slice (some ⟨X20,0,none⟩) 4 4)).setCell ⟨w.heap.size+1,1,none⟩ (.slice (some ⟨X25,0,none⟩) 4 4)=W:=⟨_,rfl⟩;rw [hWn] at Z r20 r25 ⊢;clear hWn;refine wpAny_end (by kernel_rfl) ?_ _
     try go_wp2
     go_meet
     exact ⟨X20,X25,Z.r1,Z.r2,r20,r25,Z.sm,Z.bl⟩
   ·have c0:=Z.r1.cell (i:=0) (by decide);have c1:=Z.r1.cell (i:=1) (by decide);have z0:=Z.r1.frozen 0;have z1:=Z.r1.frozen 1
    go_simp
    refine hK.out _ _ ?_;clear hK K c0 c1 z0 z1
    try simp only [putsD,Act.put,zqa,zqb,zqc,zqd,zqe,zqf]
    replace r25:=rowTwo r25 (Z.n1 b25) (.int .i64 3) (.slice (some ⟨gn,0,none⟩) 7 7);replace Z:=Z.put1 (.int .i64 3) (.slice (some ⟨gn,0,none⟩) 7 7);obtain ⟨Wfn,hWn⟩:∃ W,(Wf.setCell ⟨w.heap.size,0,none⟩ (.int .i64 3)).setCell ⟨w.heap.size,1,none⟩ (.slice (some ⟨gn,0,none⟩) 7 7)=W:=⟨_,rfl⟩;rw [hWn] at Z r25 ⊢;clear hWn;refine wpAny_one1 5 (by kernel_rfl) rfl (fun K hK=>?_)
    go_simp
    refine hK.out _ _ ?_;clear hK K
    try simp only [putsD,Act.put,zqa,zqb,zqc,zqd,zqe,zqf]
    replace r25:=r25.alloc (.cells #[.string (natB 0),.string (natB 1),.string (natB 1),.string (natB 3),.string (natB 1),.string (natB 2),.string (natB 1),.string (natB 1)] 33);have r20:=arrNew Wfn #[.string (natB 0),.string (natB 1),.string (natB 1),.string (natB 3),.string (natB 1),.string (natB 2),.string (natB 1),.string (natB 1)] 33 _ 8 rfl rfl;have b20:=Z.le;replace Z:=Z.alloc (.cells #[.string (natB 0),.string (natB 1),.string (natB 1),.string (natB 3),.string (natB 1),.string (natB 2),.string (natB 1),.string (natB 1)] 33);obtain ⟨X20,hX⟩:∃ X,Wfn.heap.size=X:=⟨_,rfl⟩;rw [hX] at r20 b20 ⊢;clear hX;obtain ⟨Wfnn,hWn⟩:∃ W,Wfn.alloc (.cells #[.string (natB 0),.string (natB 1),.string (natB 1),.string (natB 3),.string (natB 1),.string (natB 2),.string (natB 1),.string (natB 1)] 33)=W:=⟨_,rfl⟩;rw [hWn] at Z r20 r25 ⊢;clear hWn;refine wpAny_one1 11 (by kernel_rfl) rfl (fun K hK=>?_)
    go_simp
    refine hK.out _ _ ?_;clear hK K
    try simp only [putsD,Act.put,zqa,zqb,zqc,zqd,zqe,zqf]
    refine wpAny_one1 13 (by kernel_rfl) rfl (fun K hK=>?_);have c0:=Z.r2.cell (i:=0) (by decide);have c1:=Z.r2.cell (i:=1) (by decide);have z0:=Z.r2.frozen 0;have z1:=Z.r2.frozen 1
    go_simp
    refine hK.out _ _ ?_;clear hK K c0 c1 z0 z1
    try simp only [putsD,Act.put,zqa,zqb,zqc,zqd,zqe,zqf]
    replace r20:=rowTwo r20 (Z.n2 b20) (.slice (some ⟨X20,0,none⟩) 4 4) (.slice (some ⟨X25,0,none⟩) 4 4);replace r25:=rowTwo r25 (Z.n2 b25) (.slice (some ⟨X20,0,none⟩) 4 4) (.slice (some ⟨X25,0,none⟩) 4 4);replace Z:=Z.put2 (.slice (some ⟨X20,0,none⟩) 4 4) (.slice (some ⟨X25,0,none⟩) 4 4);obtain ⟨Wfnnn,hWn⟩:∃ W,(Wfnn.setCell ⟨w.heap.size+1,0,none⟩ (.slice (some ⟨X20,0,none⟩) 4 4)).setCell ⟨w.heap.size+1,1,none⟩ (.slice (some ⟨X25,0,none⟩) 4 4)=W:=⟨_,rfl⟩;rw [hWn] at Z r20 r25 ⊢;clear hWn;refine wpAny_end (by kernel_rfl) ?_ _
    try go_wp2
    go_meet
    exact ⟨X20,X25,Z.r1,Z.r2,r20,r25,Z.sm,Z.bl⟩
  ·refine FinOk.intro [(0,some 15),(1,some 16),(2,some 17),(3,some 18),(4,some 19),(6,some 21),(7,some 22),(8,some 23),(9,some 24),(10,some 25),(11,some 26)] #[true,true,true,true,true,false,true,true,true,true,true,true,false,false] 3 (by kernel_rfl) (by kernel_rfl) (by kernel_rfl) ?_;intro vs Wf hW0 hd hbk hdis kf;have hW:=zqw hW0;have d0:vs 0 = .agg #[.int .i64 3,.slice (some ⟨gn,0,none⟩) 7 7]:=hd 0 (by decide);have d1:vs 1 = .agg #[.string (natB 0),.string (natB 1)]:=hd 1 (by decide);have d2:vs 2 = .agg #[.string (natB 1),.string (natB 3)]:=hd 2 (by decide);have d3:vs 3 = .agg #[.string (natB 1),.string (natB 2)]:=hd 3 (by decide);have d4:vs 4 = .agg #[.string (natB 1),.string (natB 1)]:=hd 4 (by decide);have d6:vs 6 = .agg #[.string (natB 0),.string (natB 1)]:=hd 6 (by decide);have d7:vs 7 = .agg #[.string (natB 2),.string (natB 3)]:=hd 7 (by decide);have d8:vs 8 = .agg #[.string (natB 1),.string (natB 2)]:=hd 8 (by decide);have d9:vs 9 = .agg #[.string (natB 3),.string (natB 1)]:=hd 9 (by decide);obtain ⟨X25,d10,b25,r25⟩:∃ X,vs 10 = .slice (some ⟨X,0,none⟩) 4 4∧wc.heap.size≤X∧World.rowIs Wf X 33 8 (arrF #[.string (natB 0),.string (natB 1),.string (natB 2),.string (natB 3),.string (natB 1),.string (natB 2),.string (natB 3),.string (natB 1)]):=hd 10 (by decide);obtain ⟨XA,XB,d11,⟨bA,bB⟩,rA,rB⟩:∃ X Y,vs 11 = .agg #[.slice (some ⟨X,0,none⟩) 4 4,.slice (some ⟨Y,0,none⟩) 4 4]∧(wc.heap.size≤X∧wc.heap.size≤Y)∧World.rowIs Wf X 33 8 (arrF #[.string (natB 0),.string (natB 1),.string (natB 1),.string (natB 3),.string (natB 1),.string (natB 2),.string (natB 1),.string (natB 1)])∧World.rowIs Wf Y 33 8 (arrF #[.string (natB 0),.string (natB 1),.string (natB 2),.string (natB 3),.string (natB 1),.string (natB 2),.string (natB 3),.string (natB 1)]):=hd 11 (by decide);clear hd hbk hdis hW0
   try simp only [d0,d1,d2,d3,d4,d6,d7,d8,d9,d10,d11,putsD,Act.put,zqa,zqb,zqc,zqd,zqe,zqf]
   clear d0 d1 d2 d3 d4 d6 d7 d8 d9 d10 d11 vs HS;have Z:SmZ w wc gn b2 b5 b6 #[.int .i64 0,.slice none 0 0] #[.slice none 0 0,.slice none 0 0] Wf:=⟨zqx HBL.out hW HBL.out.size,HNT.out.below hW,HBS.out,rowBelow HR1.out hW,rowBelow HR2.out hW,HR2.out.lt,hW.size⟩;refine wpAny_two2 5 12 (by kernel_rfl) rfl rfl (fun K hK=>?_) (fun K hK=>?_)
   ·go_simp
    refine hK.out _ _ ?_;clear hK K
    try simp only [putsD,Act.put,zqa,zqb,zqc,zqd,zqe,zqf]
    replace r25:=r25.alloc (.cells #[.string (natB 0),.string (natB 1),.string (natB 1),.string (natB 3),.string (natB 1),.string (natB 2),.string (natB 1),.string (natB 1)] 33);replace rA:=rA.alloc (.cells #[.string (natB 0),.string (natB 1),.string (natB 1),.string (natB 3),.string (natB 1),.string (natB 2),.string (natB 1),.string (natB 1)] 33);replace rB:=rB.alloc (.cells #[.string (natB 0),.string (natB 1),.string (natB 1),.string (natB 3),.string (natB 1),.string (natB 2),.string (natB 1),.string (natB 1)] 33);have r20:=arrNew Wf #[.string (natB 0),.string (natB 1),.string (natB 1),.string (natB 3),.string (natB 1),.string (natB 2),.string (natB 1),.string (natB 1)] 33 _ 8 rfl rfl;have b20:=Z.le;replace Z:=Z.alloc (.cells #[.string (natB 0),.string (natB 1),.string (natB 1),.string (natB 3),.string (natB 1),.string (natB 2),.string (natB 1),.string (natB 1)] 33);obtain ⟨X20,hX⟩:∃ X,Wf.heap.size=X:=⟨_,rfl⟩;rw [hX] at r20 b20 ⊢;clear hX;obtain ⟨Wfn,hWn⟩:∃ W,Wf.alloc (.cells #[.string (natB 0),.string (natB 1),.string (natB 1),.string (natB 3),.string (natB 1),.string (natB 2),.string (natB 1),.string (natB 1)] 33)=W:=⟨_,rfl⟩;rw [hWn] at Z r20 r25 rA rB ⊢;clear hWn;refine wpAny_one1 12 (by kernel_rfl) rfl (fun K hK=>?_);have c0:=Z.r1.cell (i:=0) (by decide);have c1:=Z.r1.cell (i:=1) (by decide);have z0:=Z.r1.frozen 0;have z1:=Z.r1.frozen 1
    go_simp
    refine hK.out _ _ ?_;clear hK K c0 c1 z0 z1
    try simp only [putsD,Act.put,zqa,zqb,zqc,zqd,zqe,zqf]
    replace r20:=rowTwo r20 (Z.n1 b20) (.int .i64 3) (.slice (some ⟨gn,0,none⟩) 7 7);replace r25:=rowTwo r25 (Z.n1 b25) (.int .i64 3) (.slice (some ⟨gn,0,none⟩) 7 7);replace rA:=rowTwo rA (Z.n1 bA) (.int .i64 3) (.slice (some ⟨gn,0,none⟩) 7 7);replace rB:=rowTwo rB (Z.n1 bB) (.int .i64 3) (.slice (some ⟨gn,0,none⟩) 7 7);replace Z:=Z.put1 (.int .i64 3) (.slice (some ⟨gn,0,none⟩) 7 7);obtain ⟨Wfnn,hWn⟩:∃ W,(Wfn.setCell ⟨w.heap.size,0,none⟩ (.int .i64 3)).setCell ⟨w.heap.size,1,none⟩ (.slice (some ⟨gn,0,none⟩) 7 7)=W:=⟨_,rfl⟩;rw [hWn] at Z r20 r25 rA rB ⊢;clear hWn;refine wpAny_one1 13 (by kernel_rfl) rfl (fun K hK=>?_);have c0:=Z.r2.cell (i:=0) (by decide);have c1:=Z.r2.cell (i:=1) (by decide);have z0:=Z.r2.frozen 0;have z1:=Z.r2.frozen 1
    go_simp
    refine hK.out _ _ ?_;clear hK K c0 c1 z0 z1
    try simp only [putsD,Act.put,zqa,zqb,zqc,zqd,zqe,zqf]
    replace r20:=rowTwo r20 (Z.n2 b20) (.slice (some ⟨XA,0,none⟩) 4 4) (.slice (some ⟨XB,0,none⟩) 4 4);replace r25:=rowTwo r25 (Z.n2 b25) (.slice (some ⟨XA,0,none⟩) 4 4) (.slice (some ⟨XB,0,none⟩) 4 4);replace rA:=rowTwo rA (Z.n2 bA) (.slice (some ⟨XA,0,none⟩) 4 4) (.slice (some ⟨XB,0,none⟩) 4 4);replace rB:=rowTwo rB (Z.n2 bB) (.slice (some ⟨XA,0,none⟩) 4 4) (.slice (some ⟨XB,0,none⟩) 4 4);replace Z:=Z.put2 (.slice (some ⟨XA,0,none⟩) 4 4) (.slice (some ⟨XB,0,none⟩) 4 4);obtain ⟨Wfnnn,hWn⟩:∃ W,(Wfnn.setCell ⟨w.heap.size+1,0,none⟩ (.slice (some ⟨XA,0,none⟩) 4 4)).setCell ⟨w.heap.size+1,1,none⟩ (.slice (some ⟨XB,0,none⟩) 4 4)=W:=⟨_,rfl⟩;rw [hWn] at Z r20 r25 rA rB ⊢;clear hWn;refine wpAny_end (by kernel_rfl) ?_ _
    try go_wp2
    go_meet
    exact ⟨XA,XB,Z.r1,Z.r2,rA,rB,Z.sm,Z.bl⟩
   ·have c0:=Z.r1.cell (i:=0) (by decide);have c1:=Z.r1.cell (i:=1) (by decide);have z0:=Z.r1.frozen 0;have z1:=Z.r1.frozen 1
    go_simp
    refine hK.out _ _ ?_;clear hK K c0 c1 z0 z1
    try simp only [putsD,Act.put,zqa,zqb,zqc,zqd,zqe,zqf]
    replace r25:=rowTwo r25 (Z.n1 b25) (.int .i64 3) (.slice (some ⟨gn,0,none⟩) 7 7);replace rA:=rowTwo rA (Z.n1 bA) (.int .i64 3) (.slice (some ⟨gn,0,none⟩) 7 7);replace rB:=rowTwo rB (Z.n1 bB) (.int .i64 3) (.slice (some ⟨gn,0,none⟩) 7 7);replace Z:=Z.put1 (.int .i64 3) (.slice (some ⟨gn,0,none⟩) 7 7);obtain ⟨Wfn,hWn⟩:∃ W,(Wf.setCell ⟨w.heap.size,0,none⟩ (.int .i64 3)).setCell ⟨w.heap.size,1,none⟩ (.slice (some ⟨gn,0,none⟩) 7 7)=W:=⟨_,rfl⟩;rw [hWn] at Z r25 rA rB ⊢;clear hWn;refine wpAny_one1 5 (by kernel_rfl) rfl (fun K hK=>?_)
    go_simp
    refine hK.out _ _ ?_;clear hK K
    try simp only [putsD,Act.put,zqa,zqb,zqc,zqd,zqe,zqf]
    replace r25:=r25.alloc (.cells #[.string (natB 0),.string (natB 1),.string (natB 1),.string (natB 3),.string (natB 1),.string (natB 2),.string (natB 1),.string (natB 1)] 33);replace rA:=rA.alloc (.cells #[.string (natB 0),.string (natB 1),.string (natB 1),.string (natB 3),.string (natB 1),.string (natB 2),.string (natB 1),.string (natB 1)] 33);replace rB:=rB.alloc (.cells #[.string (natB 0),.string (natB 1),.string (natB 1),.string (natB 3),.string (natB 1),.string (natB 2),.string (natB 1),.string (natB 1)] 33);have r20:=arrNew Wfn #[.string (natB 0),.string (natB 1),.string (natB 1),.string (natB 3),.string (natB 1),.string (natB 2),.string (natB 1),.string (natB 1)] 33 _ 8 rfl rfl;have b20:=Z.le;replace Z:=Z.alloc (.cells #[.string (natB 0),.string (natB 1),.string (natB 1),.string (natB 3),.string (natB 1),.string (natB 2),.string (natB 1),.string (natB 1)] 33);obtain ⟨X20,hX⟩:∃ X,Wfn.heap.size=X:=⟨_,rfl⟩;rw [hX] at r20 b20 ⊢;clear hX;obtain ⟨Wfnn,hWn⟩:∃ W,Wfn.alloc (.cells #[.string (natB 0),.string (natB 1),.string (natB 1),.string (natB 3),.string (natB 1),.string (natB 2),.string (natB 1),.string (natB 1)] 33)=W:=⟨_,rfl⟩;rw [hWn] at Z r20 r25 rA rB ⊢;clear hWn;refine wpAny_one1 13 (by kernel_rfl) rfl (fun K hK=>?_);have c0:=Z.r2.cell (i:=0) (by decide);have c1:=Z.r2.cell (i:=1) (by decide);have z0:=Z.r2.frozen 0;have z1:=Z.r2.frozen 1
    go_simp
    refine hK.out _ _ ?_;clear hK K c0 c1 z0 z1
    try simp only [putsD,Act.put,zqa,zqb,zqc,zqd,zqe,zqf]
    replace r20:=rowTwo r20 (Z.n2 b20) (.slice (some ⟨XA,0,none⟩) 4 4) (.slice (some ⟨XB,0,none⟩) 4 4);replace r25:=rowTwo r25 (Z.n2 b25) (.slice (some ⟨XA,0,none⟩) 4 4) (.slice (some ⟨XB,0,none⟩) 4 4);replace rA:=rowTwo rA (Z.n2 bA) (.slice (some ⟨XA,0,none⟩) 4 4) (.slice (some ⟨XB,0,none⟩) 4 4);replace rB:=rowTwo rB (Z.n2 bB) (.slice (some ⟨XA,0,none⟩) 4 4) (.slice (some ⟨XB,0,none⟩) 4 4);replace Z:=Z.put2 (.slice (some ⟨XA,0,none⟩) 4 4) (.slice (some ⟨XB,0,none⟩) 4 4);obtain ⟨Wfnnn,hWn⟩:∃ W,(Wfnn.setCell ⟨w.heap.size+1,0,none⟩ (.slice (some ⟨XA,0,none⟩) 4 4)).setCell ⟨w.heap.size+1,1,none⟩ (.slice (some ⟨XB,0,none⟩) 4 4)=W:=⟨_,rfl⟩;rw [hWn] at Z r20 r25 rA rB ⊢;clear hWn;refine wpAny_end (by kernel_rfl) ?_ _
    try go_wp2
    go_meet
    exact ⟨XA,XB,Z.r1,Z.r2,rA,rB,Z.sm,Z.bl⟩
  ·refine zfo [(0,some 15),(1,some 16),(2,some 17),(3,some 18),(4,some 19),(6,some 21),(7,some 22),(8,some 23),(9,some 24),(5,some 20)] #[true,true,true,true,true,true,true,true,true,true,false,false,false,false] 4 ?_;intro vs Wf hW hd hbk hdis kf;simp only [zdj,zqu,and_true,List.getD_cons_succ,List.getD_cons_zero] at hd;obtain ⟨d0,d1,d2,d3,d4,d6,d7,d8,d9,⟨X20,d5,b20,r20⟩⟩:=hd;clear hbk hdis
   try simp only [d0,d1,d2,d3,d4,d6,d7,d8,d9,d5,putsD,Act.put,zqa,zqb,zqc,zqd,zqe,zqf]
   clear d0 d1 d2 d3 d4 d6 d7 d8 d9 d5 vs HS;have Z:SmZ w wc gn b2 b5 b6 #[.int .i64 0,.slice none 0 0] #[.slice none 0 0,.slice none 0 0] Wf:=⟨zqx HBL.out hW HBL.out.size,HNT.out.below hW,HBS.out,rowBelow HR1.out hW,rowBelow HR2.out hW,HR2.out.lt,hW.size⟩;refine wpAny_two2 10 12 (by kernel_rfl) rfl rfl (fun K hK=>?_) (fun K hK=>?_)
   ·go_simp
    refine hK.out _ _ ?_;clear hK K
    try simp only [putsD,Act.put,zqa,zqb,zqc,zqd,zqe,zqf]
    replace r20:=r20.alloc (.cells #[.string (natB 0),.string (natB 1),.string (natB 2),.string (natB 3),.string (natB 1),.string (natB 2),.string (natB 3),.string (natB 1)] 33);have r25:=arrNew Wf #[.string (natB 0),.string (natB 1),.string (natB 2),.string (natB 3),.string (natB 1),.string (natB 2),.string (natB 3),.string (natB 1)] 33 _ 8 rfl rfl;have b25:=Z.le;replace Z:=Z.alloc (.cells #[.string (natB 0),.string (natB 1),.string (natB 2),.string (natB 3),.string (natB 1),.string (natB 2),.string (natB 3),.string (natB 1)] 33);obtain ⟨X25,hX⟩:∃ X,Wf.heap.size=X:=⟨_,rfl⟩;rw [hX] at r25 b25 ⊢;clear hX;obtain ⟨Wfn,hWn⟩:∃ W,Wf.alloc (.cells #[.string (natB 0),.string (natB 1),.string (natB 2),.string (natB 3),.string (natB 1),.string (natB 2),.string (natB 3),.string (natB 1)] 33)=W:=⟨_,rfl⟩;rw [hWn] at Z r20 r25 ⊢;clear hWn;refine wpAny_two2 11 12 (by kernel_rfl) rfl rfl (fun K hK=>?_) (fun K hK=>?_)
    ·go_simp
     refine hK.out _ _ ?_;clear hK K
     try simp only [putsD,Act.put,zqa,zqb,zqc,zqd,zqe,zqf]
     refine wpAny_one1 12 (by kernel_rfl) rfl (fun K hK=>?_);have c0:=Z.r1.cell (i:=0) (by decide);have c1:=Z.r1.cell (i:=1) (by decide);have z0:=Z.r1.frozen 0;have z1:=Z.r1.frozen 1
     go_simp
     refine hK.out _ _ ?_;clear hK K c0 c1 z0 z1
     try simp only [putsD,Act.put,zqa,zqb,zqc,zqd,zqe,zqf]
     replace r20:=rowTwo r20 (Z.n1 b20) (.int .i64 3) (.slice (some ⟨gn,0,none⟩) 7 7);replace r25:=rowTwo r25 (Z.n1 b25) (.int .i64 3) (.slice (some ⟨gn,0,none⟩) 7 7);replace Z:=Z.put1 (.int .i64 3) (.slice (some ⟨gn,0,none⟩) 7 7);obtain ⟨Wfnn,hWn⟩:∃ W,(Wfn.setCell ⟨w.heap.size,0,none⟩ (.int .i64 3)).setCell ⟨w.heap.size,1,none⟩ (.slice (some ⟨gn,0,none⟩) 7 7)=W:=⟨_,rfl⟩;rw [hWn] at Z r20 r25 ⊢;clear hWn;refine wpAny_one1 13 (by kernel_rfl) rfl (fun K hK=>?_);have c0:=Z.r2.cell (i:=0) (by decide);have c1:=Z.r2.cell (i:=1) (by decide);have z0:=Z.r2.frozen 0;have z1:=Z.r2.frozen 1
     go_simp
     refine hK.out _ _ ?_;clear hK K c0 c1 z0 z1
     try simp only [putsD,Act.put,zqa,zqb,zqc,zqd,zqe,zqf]
     replace r20:=rowTwo r20 (Z.n2 b20) (.slice (some ⟨X20,0,none⟩) 4 4) (.slice (some ⟨X25,0,none⟩) 4 4);replace r25:=rowTwo r25 (Z.n2 b25) (.slice (some ⟨X20,0,none⟩) 4 4) (.slice (some ⟨X25,0,none⟩) 4 4);replace Z:=Z.put2 (.slice (some ⟨X20,0,none⟩) 4 4) (.slice (some ⟨X25,0,none⟩) 4 4);obtain ⟨Wfnnn,hWn⟩:∃ W,(Wfnn.setCell ⟨w.heap.size+1,0,none⟩ (.slice (some ⟨X20,0,none⟩) 4 4)).setCell ⟨w.heap.size+1,1,none⟩ (.slice (some ⟨X25,0,none⟩) 4 4)=W:=⟨_,rfl⟩;rw [hWn] at Z r20 r25 ⊢;clear hWn;refine wpAny_end (by kernel_rfl) ?_ _
     try go_wp2
     go_meet
     exact ⟨X20,X25,Z.r1,Z.r2,r20,r25,Z.sm,Z.bl⟩
    ·have c0:=Z.r1.cell (i:=0) (by decide);have c1:=Z.r1.cell (i:=1) (by decide);have z0:=Z.r1.frozen 0;have z1:=Z.r1.frozen 1
     go_simp
     refine hK.out _ _ ?_;clear hK K c0 c1 z0 z1
     try simp only [putsD,Act.put,zqa,zqb,zqc,zqd,zqe,zqf]
     replace r20:=rowTwo r20 (Z.n1 b20) (.int .i64 3) (.slice (some ⟨gn,0,none⟩) 7 7);replace r25:=rowTwo r25 (Z.n1 b25) (.int .i64 3) (.slice (some ⟨gn,0,none⟩) 7 7);replace Z:=Z.put1 (.int .i64 3) (.slice (some ⟨gn,0,none⟩) 7 7);obtain ⟨Wfnn,hWn⟩:∃ W,(Wfn.setCell ⟨w.heap.size,0,none⟩ (.int .i64 3)).setCell ⟨w.heap.size,1,none⟩ (.slice (some ⟨gn,0,none⟩) 7 7)=W:=⟨_,rfl⟩;rw [hWn] at Z r20 r25 ⊢;clear hWn;refine wpAny_one1 11 (by kernel_rfl) rfl (fun K hK=>?_)
     go_simp
     refine hK.out _ _ ?_;clear hK K
     try simp only [putsD,Act.put,zqa,zqb,zqc,zqd,zqe,zqf]
     refine wpAny_one1 13 (by kernel_rfl) rfl (fun K hK=>?_);have c0:=Z.r2.cell (i:=0) (by decide);have c1:=Z.r2.cell (i:=1) (by decide);have z0:=Z.r2.frozen 0;have z1:=Z.r2.frozen 1
     go_simp
     refine hK.out _ _ ?_;clear hK K c0 c1 z0 z1
     try simp only [putsD,Act.put,zqa,zqb,zqc,zqd,zqe,zqf]
     replace r20:=rowTwo r20 (Z.n2 b20) (.slice (some ⟨X20,0,none⟩) 4 4) (.slice (some ⟨X25,0,none⟩) 4 4);replace r25:=rowTwo r25 (Z.n2 b25) (.slice (some ⟨X20,0,none⟩) 4 4) (.slice (some ⟨X25,0,none⟩) 4 4);replace Z:=Z.put2 (.slice (some ⟨X20,0,none⟩) 4 4) (.slice (some ⟨X25,0,none⟩) 4 4);obtain ⟨Wfnnn,hWn⟩:∃ W,(Wfnn.setCell ⟨w.heap.size+1,0,none⟩ (.slice (some ⟨X20,0,none⟩) 4 4)).setCell ⟨w.heap.size+1,1,none⟩ (.slice (some ⟨X25,0,none⟩) 4 4)=W:=⟨_,rfl⟩;rw [hWn] at Z r20 r25 ⊢;clear hWn;refine wpAny_end (by kernel_rfl) ?_ _
     try go_wp2
     go_meet
     exact ⟨X20,X25,Z.r1,Z.r2,r20,r25,Z.sm,Z.bl⟩
   ·have c0:=Z.r1.cell (i:=0) (by decide);have c1:=Z.r1.cell (i:=1) (by decide);have z0:=Z.r1.frozen 0;have z1:=Z.r1.frozen 1
    go_simp
    refine hK.out _ _ ?_;clear hK K c0 c1 z0 z1
    try simp only [putsD,Act.put,zqa,zqb,zqc,zqd,zqe,zqf]
    replace r20:=rowTwo r20 (Z.n1 b20) (.int .i64 3) (.slice (some ⟨gn,0,none⟩) 7 7);replace Z:=Z.put1 (.int .i64 3) (.slice (some ⟨gn,0,none⟩) 7 7);obtain ⟨Wfn,hWn⟩:∃ W,(Wf.setCell ⟨w.heap.size,0,none⟩ (.int .i64 3)).setCell ⟨w.heap.size,1,none⟩ (.slice (some ⟨gn,0,none⟩) 7 7)=W:=⟨_,rfl⟩;rw [hWn] at Z r20 ⊢;clear hWn;refine wpAny_one1 10 (by kernel_rfl) rfl (fun K hK=>?_)
    go_simp
    refine hK.out _ _ ?_;clear hK K
    try simp only [putsD,Act.put,zqa,zqb,zqc,zqd,zqe,zqf]
    replace r20:=r20.alloc (.cells #[.string (natB 0),.string (natB 1),.string (natB 2),.string (natB 3),.string (natB 1),.string (natB 2),.string (natB 3),.string (natB 1)] 33);have r25:=arrNew Wfn #[.string (natB 0),.string (natB 1),.string (natB 2),.string (natB 3),.string (natB 1),.string (natB 2),.string (natB 3),.string (natB 1)] 33 _ 8 rfl rfl;have b25:=Z.le;replace Z:=Z.alloc (.cells #[.string (natB 0),.string (natB 1),.string (natB 2),.string (natB 3),.string (natB 1),.string (natB 2),.string (natB 3),.string (natB 1)] 33);obtain ⟨X25,hX⟩:∃ X,Wfn.heap.size=X:=⟨_,rfl⟩;rw [hX] at r25 b25 ⊢;clear hX;obtain ⟨Wfnn,hWn⟩:∃ W,Wfn.alloc (.cells #[.string (natB 0),.string (natB 1),.string (natB 2),.string (natB 3),.string (natB 1),.string (natB 2),.string (natB 3),.string (natB 1)] 33)=W:=⟨_,rfl⟩;rw [hWn] at Z r20 r25 ⊢;clear hWn;refine wpAny_one1 11 (by kernel_rfl) rfl (fun K hK=>?_)
    go_simp
    refine hK.out _ _ ?_;clear hK K
    try simp only [putsD,Act.put,zqa,zqb,zqc,zqd,zqe,zqf]
    refine wpAny_one1 13 (by kernel_rfl) rfl (fun K hK=>?_);have c0:=Z.r2.cell (i:=0) (by decide);have c1:=Z.r2.cell (i:=1) (by decide);have z0:=Z.r2.frozen 0;have z1:=Z.r2.frozen 1
    go_simp
    refine hK.out _ _ ?_;clear hK K c0 c1 z0 z1
    try simp only [putsD,Act.put,zqa,zqb,zqc,zqd,zqe,zqf]
    replace r20:=rowTwo r20 (Z.n2 b20) (.slice (some ⟨X20,0,none⟩) 4 4) (.slice (some ⟨X25,0,none⟩) 4 4);replace r25:=rowTwo r25 (Z.n2 b25) (.slice (some ⟨X20,0,none⟩) 4 4) (.slice (some ⟨X25,0,none⟩) 4 4);replace Z:=Z.put2 (.slice (some ⟨X20,0,none⟩) 4 4) (.slice (some ⟨X25,0,none⟩) 4 4);obtain ⟨Wfnnn,hWn⟩:∃ W,(Wfnn.setCell ⟨w.heap.size+1,0,none⟩ (.slice (some ⟨X20,0,none⟩) 4 4)).setCell ⟨w.heap.size+1,1,none⟩ (.slice (some ⟨X25,0,none⟩) 4 4)=W:=⟨_,rfl⟩;rw [hWn] at Z r20 r25 ⊢;clear hWn;refine wpAny_end (by kernel_rfl) ?_ _
    try go_wp2
    go_meet
    exact ⟨X20,X25,Z.r1,Z.r2,r20,r25,Z.sm,Z.bl⟩
  ·refine FinOk.intro [(0,some 15),(1,some 16),(2,some 17),(3,some 18),(4,some 19),(6,some 21),(7,some 22),(8,some 23),(9,some 24),(5,some 20),(11,some 26)] #[true,true,true,true,true,true,true,true,true,true,false,true,false,false] 3 (by kernel_rfl) (by kernel_rfl) (by kernel_rfl) ?_;intro vs Wf hW0 hd hbk hdis kf;have hW:=zqw hW0;have d0:vs 0 = .agg #[.int .i64 3,.slice (some ⟨gn,0,none⟩) 7 7]:=hd 0 (by decide);have d1:vs 1 = .agg #[.string (natB 0),.string (natB 1)]:=hd 1 (by decide);have d2:vs 2 = .agg #[.string (natB 1),.string (natB 3)]:=hd 2 (by decide);have d3:vs 3 = .agg #[.string (natB 1),.string (natB 2)]:=hd 3 (by decide);have d4:vs 4 = .agg #[.string (natB 1),.string (natB 1)]:=hd 4 (by decide);have d6:vs 6 = .agg #[.string (natB 0),.string (natB 1)]:=hd 6 (by decide);have d7:vs 7 = .agg #[.string (natB 2),.string (natB 3)]:=hd 7 (by decide);have d8:vs 8 = .agg #[.string (natB 1),.string (natB 2)]:=hd 8 (by decide);have d9:vs 9 = .agg #[.string (natB 3),.string (natB 1)]:=hd 9 (by decide);obtain ⟨X20,d5,b20,r20⟩:∃ X,vs 5 = .slice (some ⟨X,0,none⟩) 4 4∧wc.heap.size≤X∧World.rowIs Wf X 33 8 (arrF #[.string (natB 0),.string (natB 1),.string (natB 1),.string (natB 3),.string (natB 1),.string (natB 2),.string (natB 1),.string (natB 1)]):=hd 5 (by decide);obtain ⟨XA,XB,d11,⟨bA,bB⟩,rA,rB⟩:∃ X Y,vs 11 = .agg #[.slice (some ⟨X,0,none⟩) 4 4,.slice (some ⟨Y,0,none⟩) 4 4]∧(wc.heap.size≤X∧wc.heap.size≤Y)∧World.rowIs Wf X 33 8 (arrF #[.string (natB 0),.string (natB 1),.string (natB 1),.string (natB 3),.string (natB 1),.string (natB 2),.string (natB 1),.string (natB 1)])∧World.rowIs Wf Y 33 8 (arrF #[.string (natB 0),.string (natB 1),.string (natB 2),.string (natB 3),.string (natB 1),.string (natB 2),.string (natB 3),.string (natB 1)]):=hd 11 (by decide);clear hd hbk hdis hW0
   try simp only [d0,d1,d2,d3,d4,d6,d7,d8,d9,d5,d11,putsD,Act.put,zqa,zqb,zqc,zqd,zqe,zqf]
   clear d0 d1 d2 d3 d4 d6 d7 d8 d9 d5 d11 vs HS;have Z:SmZ w wc gn b2 b5 b6 #[.int .i64 0,.slice none 0 0] #[.slice none 0 0,.slice none 0 0] Wf:=⟨zqx HBL.out hW HBL.out.size,HNT.out.below hW,HBS.out,rowBelow HR1.out hW,rowBelow HR2.out hW,HR2.out.lt,hW.size⟩;refine wpAny_two2 10 12 (by kernel_rfl) rfl rfl (fun K hK=>?_) (fun K hK=>?_)
   ·go_simp
    refine hK.out _ _ ?_;clear hK K
    try simp only [putsD,Act.put,zqa,zqb,zqc,zqd,zqe,zqf]
    replace r20:=r20.alloc (.cells #[.string (natB 0),.string (natB 1),.string (natB 2),.string (natB 3),.string (natB 1),.string (natB 2),.string (natB 3),.string (natB 1)] 33);replace rA:=rA.alloc (.cells #[.string (natB 0),.string (natB 1),.string (natB 2),.string (natB 3),.string (natB 1),.string (natB 2),.string (natB 3),.string (natB 1)] 33);replace rB:=rB.alloc (.cells #[.string (natB 0),.string (natB 1),.string (natB 2),.string (natB 3),.string (natB 1),.string (natB 2),.string (natB 3),.string (natB 1)] 33);have r25:=arrNew Wf #[.string (natB 0),.string (natB 1),.string (natB 2),.string (natB 3),.string (natB 1),.string (natB 2),.string (natB 3),.string (natB 1)] 33 _ 8 rfl rfl;have b25:=Z.le;replace Z:=Z.alloc (.cells #[.string (natB 0),.string (natB 1),.string (natB 2),.string (natB 3),.string (natB 1),.string (natB 2),.string (natB 3),.string (natB 1)] 33);obtain ⟨X25,hX⟩:∃ X,Wf.heap.size=X:=⟨_,rfl⟩;rw [hX] at r25 b25 ⊢;clear hX;obtain ⟨Wfn,hWn⟩:∃ W,Wf.alloc (.cells #[.string (natB 0),.string (natB 1),.string (natB 2),.string (natB 3),.string (natB 1),.string (natB 2),.string (natB 3),.string (natB 1)] 33)=W:=⟨_,rfl⟩;rw [hWn] at Z r20 r25 rA rB ⊢;clear hWn;refine wpAny_one1 12 (by kernel_rfl) rfl (fun K hK=>?_);have c0:=Z.r1.cell (i:=0) (by decide);have c1:=Z.r1.cell (i:=1) (by decide);have z0:=Z.r1.frozen 0;have z1:=Z.r1.frozen 1
    go_simp
    refine hK.out _ _ ?_;clear hK K c0 c1 z0 z1
    try simp only [putsD,Act.put,zqa,zqb,zqc,zqd,zqe,zqf]
    replace r20:=rowTwo r20 (Z.n1 b20) (.int .i64 3) (.slice (some ⟨gn,0,none⟩) 7 7);replace r25:=rowTwo r25 (Z.n1 b25) (.int .i64 3) (.slice (some ⟨gn,0,none⟩) 7 7);replace rA:=rowTwo rA (Z.n1 bA) (.int .i64 3) (.slice (some ⟨gn,0,none⟩) 7 7);replace rB:=rowTwo rB (Z.n1 bB) (.int .i64 3) (.slice (some ⟨gn,0,none⟩) 7 7);replace Z:=Z.put1 (.int .i64 3) (.slice (some ⟨gn,0,none⟩) 7 7);obtain ⟨Wfnn,hWn⟩:∃ W,(Wfn.setCell ⟨w.heap.size,0,none⟩ (.int .i64 3)).setCell ⟨w.heap.size,1,none⟩ (.slice (some ⟨gn,0,none⟩) 7 7)=W:=⟨_,rfl⟩;rw [hWn] at Z r20 r25 rA rB ⊢;clear hWn;refine wpAny_one1 13 (by kernel_rfl) rfl (fun K hK=>?_);have c0:=Z.r2.cell (i:=0) (by decide);have c1:=Z.r2.cell (i:=1) (by decide);have z0:=Z.r2.frozen 0;have z1:=Z.r2.frozen 1
    go_simp
    refine hK.out _ _ ?_;clear hK K c0 c1 z0 z1
    try simp only [putsD,Act.put,zqa,zqb,zqc,zqd,zqe,zqf]
    replace r20:=rowTwo r20 (Z.n2 b20) (.slice (some ⟨XA,0,none⟩) 4 4) (.slice (some ⟨XB,0,none⟩) 4 4);replace r25:=rowTwo r25 (Z.n2 b25) (.slice (some ⟨XA,0,none⟩) 4 4) (.slice (some ⟨XB,0,none⟩) 4 4);replace rA:=rowTwo rA (Z.n2 bA) (.slice (some ⟨XA,0,none⟩) 4 4) (.slice (some ⟨XB,0,none⟩) 4 4);replace rB:=rowTwo rB (Z.n2 bB) (.slice (some ⟨XA,0,none⟩) 4 4) (.slice (some ⟨XB,0,none⟩) 4 4);replace Z:=Z.put2 (.slice (some ⟨XA,0,none⟩) 4 4) (.slice (some ⟨XB,0,none⟩) 4 4);obtain ⟨Wfnnn,hWn⟩:∃ W,(Wfnn.setCell ⟨w.heap.size+1,0,none⟩ (.slice (some ⟨XA,0,none⟩) 4 4)).setCell ⟨w.heap.size+1,1,none⟩ (.slice (some ⟨XB,0,none⟩) 4 4)=W:=⟨_,rfl⟩;rw [hWn] at Z r20 r25 rA rB ⊢;clear hWn;refine wpAny_end (by kernel_rfl) ?_ _
    try go_wp2
    go_meet
    exact ⟨XA,XB,Z.r1,Z.r2,rA,rB,Z.sm,Z.bl⟩
   ·have c0:=Z.r1.cell (i:=0) (by decide);have c1:=Z.r1.cell (i:=1) (by decide);have z0:=Z.r1.frozen 0;have z1:=Z.r1.frozen 1
    go_simp
    refine hK.out _ _ ?_;clear hK K c0 c1 z0 z1
    try simp only [putsD,Act.put,zqa,zqb,zqc,zqd,zqe,zqf]
    replace r20:=rowTwo r20 (Z.n1 b20) (.int .i64 3) (.slice (some ⟨gn,0,none⟩) 7 7);replace rA:=rowTwo rA (Z.n1 bA) (.int .i64 3) (.slice (some ⟨gn,0,none⟩) 7 7);replace rB:=rowTwo rB (Z.n1 bB) (.int .i64 3) (.slice (some ⟨gn,0,none⟩) 7 7);replace Z:=Z.put1 (.int .i64 3) (.slice (some ⟨gn,0,none⟩) 7 7);obtain ⟨Wfn,hWn⟩:∃ W,(Wf.setCell ⟨w.heap.size,0,none⟩ (.int .i64 3)).setCell ⟨w.heap.size,1,none⟩ (.slice (some ⟨gn,0,none⟩) 7 7)=W:=⟨_,rfl⟩;rw [hWn] at Z r20 rA rB ⊢;clear hWn;refine wpAny_one1 10 (by kernel_rfl) rfl (fun K hK=>?_)
    go_simp
    refine hK.out _ _ ?_;clear hK K
    try simp only [putsD,Act.put,zqa,zqb,zqc,zqd,zqe,zqf]
    replace r20:=r20.alloc (.cells #[.string (natB 0),.string (natB 1),.string (natB 2),.string (natB 3),.string (natB 1),.string (natB 2),.string (natB 3),.string (natB 1)] 33);replace rA:=rA.alloc (.cells #[.string (natB 0),.string (natB 1),.string (natB 2),.string (natB 3),.string (natB 1),.string (natB 2),.string (natB 3),.string (natB 1)] 33);replace rB:=rB.alloc (.cells #[.string (natB 0),.string (natB 1),.string (natB 2),.string (natB 3),.string (natB 1),.string (natB 2),.string (natB 3),.string (natB 1)] 33);have r25:=arrNew Wfn #[.string (natB 0),.string (natB 1),.string (natB 2),.string (natB 3),.string (natB 1),.string (natB 2),.string (natB 3),.string (natB 1)] 33 _ 8 rfl rfl;have b25:=Z.le;replace Z:=Z.alloc (.cells #[.string (natB 0),.string (natB 1),.string (natB 2),.string (natB 3),.string (natB 1),.string (natB 2),.string (natB 3),.string (natB 1)] 33);obtain ⟨X25,hX⟩:∃ X,Wfn.heap.size=X:=⟨_,rfl⟩;rw [hX] at r25 b25 ⊢;clear hX;obtain ⟨Wfnn,hWn⟩:∃ W,Wfn.alloc (.cells #[.string (natB 0),.string (natB 1),.string (natB 2),.string (natB 3),.string (natB 1),.string (natB 2),.string (natB 3),.string (natB 1)] 33)=W:=⟨_,rfl⟩;rw [hWn] at Z r20 r25 rA rB ⊢;clear hWn;refine wpAny_one1 13 (by kernel_rfl) rfl (fun K hK=>?_);have c0:=Z.r2.cell (i:=0) (by decide);have c1:=Z.r2.cell (i:=1) (by decide);have z0:=Z.r2.frozen 0;have z1:=Z.r2.frozen 1
    go_simp
    refine hK.out _ _ ?_;clear hK K c0 c1 z0 z1
    try simp only [putsD,Act.put,zqa,zqb,zqc,zqd,zqe,zqf]
    replace r20:=rowTwo r20 (Z.n2 b20) (.slice (some ⟨XA,0,none⟩) 4 4) (.slice (some ⟨XB,0,none⟩) 4 4);replace r25:=rowTwo r25 (Z.n2 b25) (.slice (some ⟨XA,0,none⟩) 4 4) (.slice (some ⟨XB,0,none⟩) 4 4);replace rA:=rowTwo rA (Z.n2 bA) (.slice (some ⟨XA,0,none⟩) 4 4) (.slice (some ⟨XB,0,none⟩) 4 4);replace rB:=rowTwo rB (Z.n2 bB) (.slice (some ⟨XA,0,none⟩) 4 4) (.slice (some ⟨XB,0,none⟩) 4 4);replace Z:=Z.put2 (.slice (some ⟨XA,0,none⟩) 4 4) (.slice (some ⟨XB,0,none⟩) 4 4);obtain ⟨Wfnnn,hWn⟩:∃ W,(Wfnn.setCell ⟨w.heap.size+1,0,none⟩ (.slice (some ⟨XA,0,none⟩) 4 4)).setCell ⟨w.heap.size+1,1,none⟩ (.slice (some ⟨XB,0,none⟩) 4 4)=W:=⟨_,rfl⟩;rw [hWn] at Z r20 r25 rA rB ⊢;clear hWn;refine wpAny_end (by kernel_rfl) ?_ _
    try go_wp2
    go_meet
    exact ⟨XA,XB,Z.r1,Z.r2,rA,rB,Z.sm,Z.bl⟩
  ·refine zfo [(0,some 15),(1,some 16),(2,some 17),(3,some 18),(4,some 19),(6,some 21),(7,some 22),(8,some 23),(9,some 24),(5,some 20),(10,some 25)] #[true,true,true,true,true,true,true,true,true,true,true,false,false,false] 3 ?_;intro vs Wf hW hd hbk hdis kf;simp only [zdj,zqu,and_true,List.getD_cons_succ,List.getD_cons_zero] at hd;obtain ⟨d0,d1,d2,d3,d4,d6,d7,d8,d9,⟨X20,d5,b20,r20⟩,⟨X25,d10,b25,r25⟩⟩:=hd;clear hbk hdis
   try simp only [d0,d1,d2,d3,d4,d6,d7,d8,d9,d5,d10,putsD,Act.put,zqa,zqb,zqc,zqd,zqe,zqf]
   clear d0 d1 d2 d3 d4 d6 d7 d8 d9 d5 d10 vs HS;have Z:SmZ w wc gn b2 b5 b6 #[.int .i64 0,.slice none 0 0] #[.slice none 0 0,.slice none 0 0] Wf:=⟨zqx HBL.out hW HBL.out.size,HNT.out.below hW,HBS.out,rowBelow HR1.out hW,rowBelow HR2.out hW,HR2.out.lt,hW.size⟩;refine wpAny_two2 11 12 (by kernel_rfl) rfl rfl (fun K hK=>?_) (fun K hK=>?_)
   ·go_simp
    refine hK.out _ _ ?_;clear hK K
    try simp only [putsD,Act.put,zqa,zqb,zqc,zqd,zqe,zqf]
    refine wpAny_one1 12 (by kernel_rfl) rfl (fun K hK=>?_);have c0:=Z.r1.cell (i:=0) (by decide);have c1:=Z.r1.cell (i:=1) (by decide);have z0:=Z.r1.frozen 0;have z1:=Z.r1.frozen 1
    go_simp
    refine hK.out _ _ ?_;clear hK K c0 c1 z0 z1
    try simp only [putsD,Act.put,zqa,zqb,zqc,zqd,zqe,zqf]
    replace r20:=rowTwo r20 (Z.n1 b20) (.int .i64 3) (.slice (some ⟨gn,0,none⟩) 7 7);replace r25:=rowTwo r25 (Z.n1 b25) (.int .i64 3) (.slice (some ⟨gn,0,none⟩) 7 7);replace Z:=Z.put1 (.int .i64 3) (.slice (some ⟨gn,0,none⟩) 7 7);obtain ⟨Wfn,hWn⟩:∃ W,(Wf.setCell ⟨w.heap.size,0,none⟩ (.int .i64 3)).setCell ⟨w.heap.size,1,none⟩ (.slice (some ⟨gn,0,none⟩) 7 7)=W:=⟨_,rfl⟩;rw [hWn] at Z r20 r25 ⊢;clear hWn;refine wpAny_one1 13 (by kernel_rfl) rfl (fun K hK=>?_);have c0:=Z.r2.cell (i:=0) (by decide);have c1:=Z.r2.cell (i:=1) (by decide);have z0:=Z.r2.frozen 0;have z1:=Z.r2.frozen 1
    go_simp
    refine hK.out _ _ ?_;clear hK K c0 c1 z0 z1
    try simp only [putsD,Act.put,zqa,zqb,zqc,zqd,zqe,zqf]
    replace r20:=rowTwo r20 (Z.n2 b20) (.slice (some ⟨X20,0,none⟩) 4 4) (.slice (some ⟨X25,0,none⟩) 4 4);replace r25:=rowTwo r25 (Z.n2 b25) (.slice (some ⟨X20,0,none⟩) 4 4) (.slice (some ⟨X25,0,none⟩) 4 4);replace Z:=Z.put2 (.slice (some ⟨X20,0,none⟩) 4 4) (.slice (some ⟨X25,0,none⟩) 4 4);obtain ⟨Wfnn,hWn⟩:∃ W,(Wfn.setCell ⟨w.heap.size+1,0,none⟩ (.slice (some ⟨X20,0,none⟩) 4 4)).setCell ⟨w.heap.size+1,1,none⟩ (.slice (some ⟨X25,0,none⟩) 4 4)=W:=⟨_,rfl⟩;rw [hWn] at Z r20 r25 ⊢;clear hWn;refine wpAny_end (by kernel_rfl) ?_ _
    try go_wp2
    go_meet
    exact ⟨X20,X25,Z.r1,Z.r2,r20,r25,Z.sm,Z.bl⟩
   ·have c0:=Z.r1.cell (i:=0) (by decide);have c1:=Z.r1.cell (i:=1) (by decide);have z0:=Z.r1.frozen 0;have z1:=Z.r1.frozen 1
    go_simp
    refine hK.out _ _ ?_;clear hK K c0 c1 z0 z1
    try simp only [putsD,Act.put,zqa,zqb,zqc,zqd,zqe,zqf]
    replace r20:=rowTwo r20 (Z.n1 b20) (.int .i64 3) (.slice (some ⟨gn,0,none⟩) 7 7);replace r25:=rowTwo r25 (Z.n1 b25) (.int .i64 3) (.slice (some ⟨gn,0,none⟩) 7 7);replace Z:=Z.put1 (.int .i64 3) (.slice (some ⟨gn,0,none⟩) 7 7);obtain ⟨Wfn,hWn⟩:∃ W,(Wf.setCell ⟨w.heap.size,0,none⟩ (.int .i64 3)).setCell ⟨w.heap.size,1,none⟩ (.slice (some ⟨gn,0,none⟩) 7 7)=W:=⟨_,rfl⟩;rw [hWn] at Z r20 r25 ⊢;clear hWn;refine wpAny_one1 11 (by kernel_rfl) rfl (fun K hK=>?_)
    go_simp
    refine hK.out _ _ ?_;clear hK K
    try simp only [putsD,Act.put,zqa,zqb,zqc,zqd,zqe,zqf]
    refine wpAny_one1 13 (by kernel_rfl) rfl (fun K hK=>?_);have c0:=Z.r2.cell (i:=0) (by decide);have c1:=Z.r2.cell (i:=1) (by decide);have z0:=Z.r2.frozen 0;have z1:=Z.r2.frozen 1
    go_simp
    refine hK.out _ _ ?_;clear hK K c0 c1 z0 z1
    try simp only [putsD,Act.put,zqa,zqb,zqc,zqd,zqe,zqf]
    replace r20:=rowTwo r20 (Z.n2 b20) (.slice (some ⟨X20,0,none⟩) 4 4) (.slice (some ⟨X25,0,none⟩) 4 4);replace r25:=rowTwo r25 (Z.n2 b25) (.slice (some ⟨X20,0,none⟩) 4 4) (.slice (some ⟨X25,0,none⟩) 4 4);replace Z:=Z.put2 (.slice (some ⟨X20,0,none⟩) 4 4) (.slice (some ⟨X25,0,none⟩) 4 4);obtain ⟨Wfnn,hWn⟩:∃ W,(Wfn.setCell ⟨w.heap.size+1,0,none⟩ (.slice (some ⟨X20,0,none⟩) 4 4)).setCell ⟨w.heap.size+1,1,none⟩ (.slice (some ⟨X25,0,none⟩) 4 4)=W:=⟨_,rfl⟩;rw [hWn] at Z r20 r25 ⊢;clear hWn;refine wpAny_end (by kernel_rfl) ?_ _
    try go_wp2
    go_meet
    exact ⟨X20,X25,Z.r1,Z.r2,r20,r25,Z.sm,Z.bl⟩
  ·refine FinOk.intro [(0,some 15),(1,some 16),(2,some 17),(3,some 18),(4,some 19),(6,some 21),(7,some 22),(8,some 23),(9,some 24),(5,some 20),(10,some 25),(11,some 26)] #[true,true,true,true,true,true,true,true,true,true,true,true,false,false] 2 (by kernel_rfl) (by kernel_rfl) (by kernel_rfl) ?_;intro vs Wf hW0 hd hbk hdis kf;have hW:=zqw hW0;have d0:vs 0 = .agg #[.int .i64 3,.slice (some ⟨gn,0,none⟩) 7 7]:=hd 0 (by decide);have d1:vs 1 = .agg #[.string (natB 0),.string (natB 1)]:=hd 1 (by decide);have d2:vs 2 = .agg #[.string (natB 1),.string (natB 3)]:=hd 2 (by decide);have d3:vs 3 = .agg #[.string (natB 1),.string (natB 2)]:=hd 3 (by decide);have d4:vs 4 = .agg #[.string (natB 1),.string (natB 1)]:=hd 4 (by decide);have d6:vs 6 = .agg #[.string (natB 0),.string (natB 1)]:=hd 6 (by decide);have d7:vs 7 = .agg #[.string (natB 2),.string (natB 3)]:=hd 7 (by decide);have d8:vs 8 = .agg #[.string (natB 1),.string (natB 2)]:=hd 8 (by decide);have d9:vs 9 = .agg #[.string (natB 3),.string (natB 1)]:=hd 9 (by decide);obtain ⟨X20,d5,b20,r20⟩:∃ X,vs 5 = .slice (some ⟨X,0,none⟩) 4 4∧wc.heap.size≤X∧World.rowIs Wf X 33 8 (arrF #[.string (natB 0),.string (natB 1),.string (natB 1),.string (natB 3),.string (natB 1),.string (natB 2),.string (natB 1),.string (natB 1)]):=hd 5 (by decide);obtain ⟨X25,d10,b25,r25⟩:∃ X,vs 10 = .slice (some ⟨X,0,none⟩) 4 4∧wc.heap.size≤X∧World.rowIs Wf X 33 8 (arrF #[.string (natB 0),.string (natB 1),.string (natB 2),.string (natB 3),.string (natB 1),.string (natB 2),.string (natB 3),.string (natB 1)]):=hd 10 (by decide);obtain ⟨XA,XB,d11,⟨bA,bB⟩,rA,rB⟩:∃ X Y,vs 11 = .agg #[.slice (some ⟨X,0,none⟩) 4 4,.slice (some ⟨Y,0,none⟩) 4 4]∧(wc.heap.size≤X∧wc.heap.size≤Y)∧World.rowIs Wf X 33 8 (arrF #[.string (natB 0),.string (natB 1),.string (natB 1),.string (natB 3),.string (natB 1),.string (natB 2),.string (natB 1),.string (natB 1)])∧World.rowIs Wf Y 33 8 (arrF #[.string (natB 0),.string (natB 1),.string (natB 2),.string (natB 3),.string (natB 1),.string (natB 2),.string (natB 3),.string (natB 1)]):=hd 11 (by decide);clear hd hbk hdis hW0
   try simp only [d0,d1,d2,d3,d4,d6,d7,d8,d9,d5,d10,d11,putsD,Act.put,zqa,zqb,zqc,zqd,zqe,zqf]
   clear d0 d1 d2 d3 d4 d6 d7 d8 d9 d5 d10 d11 vs HS;have Z:SmZ w wc gn b2 b5 b6 #[.int .i64 0,.slice none 0 0] #[.slice none 0 0,.slice none 0 0] Wf:=⟨zqx HBL.out hW HBL.out.size,HNT.out.below hW,HBS.out,rowBelow HR1.out hW,rowBelow HR2.out hW,HR2.out.lt,hW.size⟩;refine wpAny_one1 12 (by kernel_rfl) rfl (fun K hK=>?_);have c0:=Z.r1.cell (i:=0) (by decide);have c1:=Z.r1.cell (i:=1) (by decide);have z0:=Z.r1.frozen 0;have z1:=Z.r1.frozen 1
   go_simp
   refine hK.out _ _ ?_;clear hK K c0 c1 z0 z1
   try simp only [putsD,Act.put,zqa,zqb,zqc,zqd,zqe,zqf]
   replace r20:=rowTwo r20 (Z.n1 b20) (.int .i64 3) (.slice (some ⟨gn,0,none⟩) 7 7);replace r25:=rowTwo r25 (Z.n1 b25) (.int .i64 3) (.slice (some ⟨gn,0,none⟩) 7 7);replace rA:=rowTwo rA (Z.n1 bA) (.int .i64 3) (.slice (some ⟨gn,0,none⟩) 7 7);replace rB:=rowTwo rB (Z.n1 bB) (.int .i64 3) (.slice (some ⟨gn,0,none⟩) 7 7);replace Z:=Z.put1 (.int .i64 3) (.slice (some ⟨gn,0,none⟩) 7 7);obtain ⟨Wfn,hWn⟩:∃ W,(Wf.setCell ⟨w.heap.size,0,none⟩ (.int .i64 3)).setCell ⟨w.heap.size,1,none⟩ (.slice (some ⟨gn,0,none⟩) 7 7)=W:=⟨_,rfl⟩;rw [hWn] at Z r20 r25 rA rB ⊢;clear hWn;refine wpAny_one1 13 (by kernel_rfl) rfl (fun K hK=>?_);have c0:=Z.r2.cell (i:=0) (by decide);have c1:=Z.r2.cell (i:=1) (by decide);have z0:=Z.r2.frozen 0;have z1:=Z.r2.frozen 1
   go_simp
   refine hK.out _ _ ?_;clear hK K c0 c1 z0 z1
   try simp only [putsD,Act.put,zqa,zqb,zqc,zqd,zqe,zqf]
   replace r20:=rowTwo r20 (Z.n2 b20) (.slice (some ⟨XA,0,none⟩) 4 4) (.slice (some ⟨XB,0,none⟩) 4 4);replace r25:=rowTwo r25 (Z.n2 b25) (.slice (some ⟨XA,0,none⟩) 4 4) (.slice (some ⟨XB,0,none⟩) 4 4);replace rA:=rowTwo rA (Z.n2 bA) (.slice (some ⟨XA,0,none⟩) 4 4) (.slice (some ⟨XB,0,none⟩) 4 4);replace rB:=rowTwo rB (Z.n2 bB) (.slice (some ⟨XA,0,none⟩) 4 4) (.slice (some ⟨XB,0,none⟩) 4 4);replace Z:=Z.put2 (.slice (some ⟨XA,0,none⟩) 4 4) (.slice (some ⟨XB,0,none⟩) 4 4);obtain ⟨Wfnn,hWn⟩:∃ W,(Wfn.setCell ⟨w.heap.size+1,0,none⟩ (.slice (some ⟨XA,0,none⟩) 4 4)).setCell ⟨w.heap.size+1,1,none⟩ (.slice (some ⟨XB,0,none⟩) 4 4)=W:=⟨_,rfl⟩;rw [hWn] at Z r20 r25 rA rB ⊢;clear hWn;refine wpAny_end (by kernel_rfl) ?_ _
   try go_wp2
   go_meet
   exact ⟨XA,XB,Z.r1,Z.r2,rA,rB,Z.sm,Z.bl⟩
 case rest =>
 obtain ⟨XA,XB,hr1,hr2,rA,rB,hsm,hbl⟩:=hcut
 go_wp2_with fail
 refine bodyPost_ret (v:=.tuple #[ntV smpN (some ⟨gn,0,none⟩) 7,wtsV (some ⟨XA,0,none⟩) (some ⟨XB,0,none⟩) 4 4 4 4]) ?_ rfl ⟨gn,XA,XB,rfl,hsm.nt,Rd.of_row (rA.congr smpL_row) (zqn _) rA.lt,Rd.of_row (rB.congr smpH_row) (zqn _) rB.lt,hbl⟩;rw [results_cells2 rfl];have hl1:=run_loadVar_row (P:=Tryz.prog) _ w.heap.size 24 24 _ (0,0) _ (rowArr hr1) Tryz.underlying24 rfl (by simpa using size_net');have hl2:=run_loadVar_row (P:=Tryz.prog) _ (w.heap.size+1) 39 39 _ (0,0) _ (rowArr hr2) Tryz.underlying39 rfl (by simpa using size_wts);simp [asAddr,Result.andThen,hl1,hl2];exact ⟨rfl,rfl⟩
end Go.Proofs.YtmhllppjcilllaaGreatDoor
