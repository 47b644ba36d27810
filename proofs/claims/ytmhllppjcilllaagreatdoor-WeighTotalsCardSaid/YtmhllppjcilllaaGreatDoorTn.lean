import Derived.Sort.Statements
import Derived.Lib.SlicesCompact
import Derived.Test.YtmhllppjcilllaaGreatDoorLy
import Derived.Test.YtmhllppjcilllaaGreatDoorV1
import Derived.Test.YtmhllppjcilllaaGreatDoorBq
set_option linter.unusedSimpArgs false
set_option linter.unusedVariables false
section
open Go
namespace Cs
def keyL (a:Int):Int:=if a<0 then -(2*a) else 2*a+1
theorem keyL_inj {a b:Int} (h:keyL a=keyL b):a=b:=by
 unfold keyL at h
 split at h <;> split at h <;> omega
def litCmp (a b:Int):Int:=if a.natAbs≠b.natAbs then (a.natAbs:Int)-b.natAbs else a-b
theorem cmpL_lt (a b:Int):litCmp a b<0↔keyL a<keyL b:=by
 unfold litCmp keyL
 split <;> split <;> split <;> omega
abbrev VL:={x:Int // x.natAbs≤128}
instance:Inhabited VL:=⟨⟨1,by decide⟩⟩
theorem opp_iff {C:List Int} (hs:C.Pairwise fun x y=>keyL x<keyL y) (h0:∀ x∈C,x≠0):(∃ i,i+1<C.length∧C.getD (i+1) 0 = -C.getD i 0)↔∃ x∈C,-x∈C:=by
 have gm:∀ i,i<C.length→C.getD i 0∈C:=fun i hi=>by
  rw [List.getD_eq_getElem?_getD,List.getElem?_eq_getElem hi];exact List.getElem_mem hi
 have hp:∀ i j,i<j→j<C.length→keyL (C.getD i 0)<keyL (C.getD j 0):=fun i j hij hj=>by
  have:=List.pairwise_iff_getElem.1 hs i j (by omega) hj hij;rw [List.getD_eq_getElem?_getD,List.getElem?_eq_getElem (by omega),List.getD_eq_getElem?_getD,List.getElem?_eq_getElem hj];exact this
 constructor
 ·rintro ⟨i,hi,e⟩;exact ⟨C.getD i 0,gm i (by omega),by rw [← e];exact gm _ hi⟩
 ·rintro ⟨x,hx,hy⟩
  have main:∀ y:Int,0<y→y∈C→-y∈C→∃ i,i+1<C.length∧C.getD (i+1) 0 = -C.getD i 0:=fun y hy0 h1 h2=>by
   obtain ⟨j,hj,ej⟩:=List.mem_iff_getElem.1 h1;obtain ⟨i,hi,ei⟩:=List.mem_iff_getElem.1 h2
   have dj:C.getD j 0=y:=by rw [List.getD_eq_getElem?_getD,List.getElem?_eq_getElem hj];exact ej
   have di:C.getD i 0 = -y:=by rw [List.getD_eq_getElem?_getD,List.getElem?_eq_getElem hi];exact ei
   have ky:keyL y=2*y+1:=by unfold keyL;split <;> omega
   have kn:keyL (-y)=2*y:=by unfold keyL;split <;> omega
   have hij:i<j:=by
    rcases Nat.lt_trichotomy i j with h | h | h
    ·exact h
    ·subst h;rw [di] at dj;omega
    ·have:=hp j i h hi;rw [di,dj] at this;omega
   have hnext:i+1=j:=by
    rcases Nat.lt_or_ge (i+1) j with h | h
    ·have a:=hp i (i+1) (by omega) (by omega);have b:=hp (i+1) j h hj;rw [di] at a;rw [dj] at b;omega
    ·omega
   exact ⟨i,by omega,by rw [hnext,dj,di];omega⟩
  have hx0:=h0 x hx;rcases Int.lt_or_le 0 x with h | h
  ·exact main x h hx hy
  ·exact main (-x) (by omega) hy (by rw [Int.neg_neg];exact hx)
section
open Go.Lib Go.Sort
variable {d:Array VL}
theorem get_mem (i:Nat) (hi:i<d.size):d[i]! ∈ d.toList:=by
 rw [getElem!_pos d i hi];exact Array.getElem_mem_toList hi
theorem compact_mem (x:VL):x∈compactUpTo d d.size↔x∈d.toList:=by
 unfold compactUpTo;rw [List.mem_map]
 constructor
 ·rintro ⟨i,hi,rfl⟩;rw [List.mem_filter,List.mem_range] at hi;exact get_mem i hi.1
 ·intro hx;obtain ⟨i,hi,e⟩:=List.mem_iff_getElem.1 hx
  have hi':i<d.size:=by simpa using hi
  have ei:d[i]! = x:=by rw [getElem!_pos d i hi'];simpa using e
  have:∀ m i,i≤m→i<d.size→d[i]! = x→∃ j,j<d.size∧keeps d j=true∧d[j]! = x:=fun m=>by
   induction m with
   | zero =>
     intro i h1 h2 h3
     obtain rfl:i=0:=by omega
     exact ⟨0,h2,decide_eq_true (Or.inl rfl),h3⟩
   | succ m ih =>
     intro i h1 h2 h3;by_cases hk:keeps d i=true
     ·exact ⟨i,h2,hk,h3⟩
     ·unfold keeps at hk;rw [decide_eq_true_eq,not_or] at hk;have:d[i]! = d[i-1]! := Classical.byContradiction fun h=>hk.2 h;exact ih (i-1) (by omega) (by omega) (by rw [← this];exact h3)
  obtain ⟨j,hj,hk,e2⟩:=this i i (Nat.le_refl _) hi' ei;exact ⟨j,List.mem_filter.2 ⟨List.mem_range.2 hj,hk⟩,e2⟩
theorem compact_strict (hs:∀ i j,i<j→j<d.size→keyL d[i]!.1≤keyL d[j]!.1):((compactUpTo d d.size).map (·.1)).Pairwise fun x y=>keyL x<keyL y:=by
 rw [List.pairwise_map];unfold compactUpTo;rw [List.pairwise_map];have hr:((List.range d.size).filter (keeps d)).Pairwise (·<·):=List.Pairwise.filter _ List.pairwise_lt_range;refine hr.imp_of_mem ?_;intro i j hi hj hij;rw [List.mem_filter,List.mem_range] at hi hj;have hk:=hj.2;unfold keeps at hk;rw [decide_eq_true_eq] at hk;have hne:d[j]! ≠ d[j-1]! := hk.resolve_left (by omega);have h1:keyL d[j-1]!.1≤keyL d[j]!.1:=hs (j-1) j (by omega) hj.1
 have h2:keyL d[i]!.1≤keyL d[j-1]!.1:=by
  rcases Nat.lt_or_ge i (j-1) with h | h
  ·exact hs i (j-1) h (by omega)
  ·rw [show i=j-1 by omega];exact Int.le_refl _
 have h3:keyL d[j-1]!.1≠keyL d[j]!.1:=fun h=>hne (Subtype.ext (keyL_inj h.symm));omega
end
def vlOf (x:Int):VL:=if h:x.natAbs≤128 then ⟨x,h⟩ else ⟨1,by decide⟩
theorem vlOf_val {x:Int} (h:x.natAbs≤128):(vlOf x).1=x:=by
 unfold vlOf;rw [dif_pos h]
abbrev R64:={x:Int // -9223372036854775808≤x∧x≤9223372036854775807}
instance:Inhabited R64:=⟨⟨0,by decide⟩⟩
def r64Of (x:Int):R64:=if h : -9223372036854775808≤x∧x≤9223372036854775807 then ⟨x,h⟩ else ⟨0,by decide⟩
theorem r64Of_val {x:Int} (h : -9223372036854775808≤x∧x≤9223372036854775807):(r64Of x).1=x:=by
 unfold r64Of;rw [dif_pos h]
end Cs
end
section
set_option maxRecDepth 100000
set_option maxHeartbeats 1000000
open Go Go.RowKit Cs Go.Sort Go.Lib
namespace Go.Proofs.YtmhllppjcilllaaGreatDoor
theorem litVar_abs {x:Int} (h:x.natAbs≤128):litVar x=(x.natAbs:Int):=by
 unfold litVar;split
 ·omega
 ·split <;> omega
theorem litCmp_any (W:World) (x y:Int) (hx:x.natAbs≤128) (hy:y.natAbs≤128) :
  Calls Tryz.prog 153 #[.int .i64 x,.int .i64 y] W fun e w'=>e = .returned (.int .i64 (litCmp x y))∧w'=W:=by
 have h1:∀ V,Calls Tryz.prog 117 #[.int .i64 x] V fun e w'=>e = .returned (.int .i64 (x.natAbs:Int))∧V=w':=fun V=>by
  have:=litVar_any V x (by omega) (by omega);rw [litVar_abs hx] at this;exact this
 have h2:∀ V,Calls Tryz.prog 117 #[.int .i64 y] V fun e w'=>e = .returned (.int .i64 (y.natAbs:Int))∧V=w':=fun V=>by
  have:=litVar_any V y (by omega) (by omega);rw [litVar_abs hy] at this;exact this
 have H1:=zqh h1;have H2:=zqh h2
 have wr1:IntKind.i64.wrap ((x.natAbs:Int)-(y.natAbs:Int))=(x.natAbs:Int)-(y.natAbs:Int):=by rw [IntKind.wrap_i64];omega
 have wr2:IntKind.i64.wrap (x-y)=x-y:=by rw [IntKind.wrap_i64];omega
 unfold litCmp;by_cases h:x.natAbs=y.natAbs
 ·rw [if_neg (by omega)];obtain ⟨a,ha⟩:∃ a:Int,(x.natAbs:Int)=a:=⟨_,rfl⟩
  have hb:(y.natAbs:Int)=a:=by omega
  simp only [ha] at H1;simp only [hb] at H2
  have hne:(a != a)=false:=by simp
  clear h1 h2 h hx hy ha hb wr1
  go_enter Tryz.func153, Tryz.ntmps153
  go_wp2_with (go_at_call 117;(with_reducible first | refine (H1.out _).mono ?_ | refine (H2.out _).mono ?_);rintro e w1 ⟨rfl,rfl⟩)
  all_goals
   go_ret
   exact ⟨rfl,rfl⟩
 ·rw [if_pos h];obtain ⟨a,ha⟩:∃ a:Int,(x.natAbs:Int)=a:=⟨_,rfl⟩;obtain ⟨b,hb⟩:∃ b:Int,(y.natAbs:Int)=b:=⟨_,rfl⟩
  have hab:a≠b:=by omega
  simp only [ha] at H1;simp only [hb] at H2;rw [ha,hb] at wr1;rw [ha,hb];have hne:(a != b)=true:=bne_iff_ne.2 hab
  have hne2:(a==b)=false:=by simpa using hab
  clear h1 h2 h hx hy ha hb wr2
  go_enter Tryz.func153, Tryz.ntmps153
  go_wp2_with (go_at_call 117;(with_reducible first | refine (H1.out _).mono ?_ | refine (H2.out _).mono ?_);rintro e w1 ⟨rfl,rfl⟩)
  all_goals
   go_ret
   exact ⟨rfl,rfl⟩
theorem litOrd_any (W:World) (x y:VL):Calls Tryz.prog 152 #[.int .i64 x.1,.int .i64 y.1] W fun e w'=>e = .returned (.int .i64 (litCmp x.1 y.1))∧∃ q,w'=W.drewN q:=by
 have h1:=litCmp_any W x.1 y.1 x.2 y.2;generalize litCmp x.1 y.1=r at h1 ⊢;obtain ⟨x,_⟩:=x;obtain ⟨y,_⟩:=y;simp only at h1 ⊢
 go_enter Tryz.func152, Tryz.ntmps152
 go_wp2_with (go_at_call 153;refine h1.mono ?_;rintro e w1 ⟨rfl,rfl⟩)
 go_ret
 exact ⟨rfl,0,rfl⟩
theorem swoL:SWO (ltOf fun x y:VL=>litCmp x.1 y.1) where
 irrefl x:=by unfold ltOf;rw [decide_eq_false_iff_not,cmpL_lt];omega
 trans x y z h1 h2:=by
  unfold ltOf at *
  rw [decide_eq_true_eq,cmpL_lt] at *
  omega
 ntrans x y z h1 h2:=by
  unfold ltOf at *
  rw [decide_eq_false_iff_not,cmpL_lt] at *
  omega
theorem litIs_any (W:World) (p:Addr) (n x:Int) (h0 : -9223372036854775808≤x) (h1:x≤9223372036854775807) (hp:W.cell? p=some (.int .i64 n)) :
  Calls Tryz.prog 149 #[.int .i64 x,.pointer (some p)] W fun e w'=>e = .returned (.bool (!litOk x n))∧∃ q,w'=W.drewN q:=by
 have hv:=fun V=>litValid_any V x n h0 h1;generalize litOk x n=r at hv ⊢;have HV:=zqh hv;clear hv h0 h1
 go_enter Tryz.func149, Tryz.ntmps149
 go_wp2_with (go_at_call 134;(with_reducible refine (HV.out _).mono ?_);rintro e w1 ⟨rfl,rfl⟩)
 go_ret
 exact ⟨rfl,0,rfl⟩
theorem all_r64 (n:Int):∀ l:List Int,(∀ x∈l,-9223372036854775808≤x∧x≤9223372036854775807)→(l.map r64Of).any (fun x=>!litOk x.1 n) = !(l.all fun x=>litOk x n)
 | [],_=>rfl
 | a::l,h=>by
   rw [List.map_cons,List.any_cons,List.all_cons,all_r64 n l (fun x hx=>h x (List.mem_cons_of_mem _ hx)),r64Of_val (h a (List.mem_cons_self ..)),Bool.not_and]
theorem litAll_any (w:World) (A:Option Addr) (c:Nat) (l:List Int) (n:Int) (hl:l.length≤1000000) (hr:∀ x∈l,-9223372036854775808≤x∧x≤9223372036854775807) (hA:Rd w w.heap.size A l.length (intF l)) :
  Calls Tryz.prog 111 #[.slice A l.length c,.int .i64 n] w fun e w'=>e = .returned (.bool (l.all fun x=>litOk x n))∧Below w.heap.size w w':=by
 have hb0:Below w.heap.size w (w.alloc (.cells #[.int .i64 n] 3)):=(zqr _ _).alloc (zqn _) _;have r0:=arrNew w #[.int .i64 n] 3 w.heap.size 1 rfl rfl;have eg:∀ args w,(callFunc 149 args).run Tryz.prog w = .ok (.enter 149 args) w:=enters_of Tryz.func149 (by kernel_rfl) rfl
 have hcon:Calls Tryz.prog 94 #[.slice A l.length c,.func (.func 149) #[] #[.pointer (some ⟨w.heap.size,0,none⟩)]] (w.alloc (.cells #[.int .i64 n] 3)) fun e w'=>e = .returned (.bool (!(l.all fun x=>litOk x n)))∧Below w.heap.size w w':=by
  rcases l with _ | ⟨a,l⟩
  ·refine (AnyE.slices_ContainsFunc_empty contL A c _ _).mono ?_;rintro e w' ⟨rfl,rfl⟩;exact ⟨rfl,hb0⟩
  ·obtain ⟨b,o,rfl,hb,hc⟩:=hA (by simp)
   have:=AnyE.slices_ContainsFunc contL (fun x:R64=>Value.int .i64 x.1) (fun x=>!litOk x.1 n) 149 #[.pointer (some ⟨w.heap.size,0,none⟩)] eg b o (a::l).length c ((a::l).map r64Of) (w.alloc (.cells #[.int .i64 n] 3))
    (fun W x hW=>litIs_any W ⟨w.heap.size,0,none⟩ n x.1 x.2.1 x.2.2 ((rowBelow r0 hW).cell (i:=0) (by decide))) (by simp) (by omega) (fun j hj=>by
     rw [List.length_map] at hj;rw [hb0.cell (p:=⟨b,o+j,none⟩) hb,hc j hj];unfold intF;rw [getElem!_pos _ j (by simpa using hj),List.getElem_map,r64Of_val (hr _ (List.getElem_mem hj)),List.getD_eq_getElem?_getD,List.getElem?_eq_getElem hj]
     rfl)
   refine (show Calls Tryz.prog 94 _ _ _ from this).mono ?_;rintro e w' ⟨rfl,q,rfl⟩;refine ⟨?_,belowDrewN hb0 q⟩;rw [List.take_of_length_le (by simp),all_r64 n _ hr]
 obtain ⟨r,hr2⟩:∃ r,(l.all fun x=>litOk x n)=r:=⟨_,rfl⟩;rw [hr2] at hcon ⊢;obtain ⟨m,hm⟩:∃ m,l.length=m:=⟨_,rfl⟩;rw [hm] at hcon ⊢;have HC:=zqh hcon;clear hcon hr2 hr hA hl r0 eg hb0 hm
 go_enter Tryz.func111, Tryz.ntmps111
 go_wp2_with (go_at_call 94;(with_reducible refine HC.out.mono ?_);rintro e w1 ⟨rfl,hb⟩)
 go_ret
 exact ⟨by simp,hb⟩
end Go.Proofs.YtmhllppjcilllaaGreatDoor
end
