import Derived.Test.YtmhllppjcilllaaGreatDoorChecked
import Derived.Test.YtmhllppjcilllaaGreatDoorN1
import Derived.Test.YtmhllppjcilllaaGreatDoorM1
import Derived.RangeFuncBox
import Derived.RangeFuncLeaves
import Derived.RangeFuncNested
import Derived.RangeFuncBound
import Derived.RangeFuncCalls
import Derived.Shelf.Abstract
import Derived.OwnWalkIn
import Derived.TacticsInMore
import Derived.LoopNIn
import Derived.LoopIn
import Derived.Maps.AppendAt
import Derived.Laws.Bits64b
set_option linter.unusedSimpArgs false
set_option linter.unusedVariables false
set_option maxRecDepth 100000
set_option maxHeartbeats 2000000
section
open Go Go.RowKit Cs
namespace Go.Proofs.YtmhllppjcilllaaGreatDoor
abbrev qm (s:Nat):Value:=.agg #[.int .u64 (lo s:Int),.int .u64 (hi s:Int)]
def pJ (s:Nat) (i:Nat):Value:=if i=0 then .int .u64 (lo s:Int) else .int .u64 (hi s:Int)
theorem size_set:(Tryz.prog.info? 96).map (·.size)=some 2:=by kernel_rfl
theorem pR {fn:Func} {R:Ending→World→Prop} {a:Act} {w:World} {p:Tmp} (h:fn.results=#[.cell p 96]) {g:Nat} {t:TypeId} (s:Nat) {f:Nat→Value}
  (hp:a.tmps.getD p undef = .pointer (some ⟨g,0,none⟩)) (hrow:w.rowIs g t 2 f) (h0:f 0 = .int .u64 (lo s:Int)) (h1:f 1 = .int .u64 (hi s:Int)) (hdf:a.defers=[]) (hR:R (.returned (qm s)) w):bodyPost Tryz.prog fn R .ret a w:=by
 refine zdX h g t 2 f hp hrow _ Tryz.underlying96 rfl size_set hdf ?_;have e:((List.range 2).map f).toArray=#[f 0,f 1]:=rfl;rw [e,h0,h1];exact hR
theorem jQ (w:World) (x y:Value) (t:TypeId) (g:Nat) (hg:w.heap.size=g):(w.alloc (.cells #[x,y] t)).rowIs g t 2 fun i=>if i=0 then x else y:=by
 subst hg;exact World.rowIs_alloc w #[x,y] t _ fun i hi=>by
  have:i=0∨i=1:=by simp at hi;omega
  rcases this with rfl | rfl <;> rfl
theorem yF {w:World} {g:Nat} {t:TypeId} {s:Nat} (h:w.rowIs g t 2 (pJ s)) :
  w.cell? ⟨g,0,none⟩=some (.int .u64 (lo s:Int))∧w.cell? ⟨g,1,none⟩=some (.int .u64 (hi s:Int))∧w.frozen? ⟨g,0,none⟩=false∧w.frozen? ⟨g,1,none⟩=false :=
 ⟨h.cell (i:=0) (by omega),h.cell (i:=1) (by omega),h.frozen 0,h.frozen 1⟩
theorem zeJ {w:World} {g:Nat} {t:TypeId} {f:Nat→Value} (h:w.rowIs g t 2 f) (s:Nat) :
  ((w.setCell ⟨g,0,none⟩ (.int .u64 (lo s:Int))).setCell ⟨g,1,none⟩ (.int .u64 (hi s:Int))).rowIs g t 2 (pJ s) :=
 ((h.set 0 _).set 1 _).congr fun i hi=>by
  unfold pJ;have:i=0∨i=1:=by omega
  rcases this with rfl | rfl <;> rfl
theorem setNew (w:World) (s:Nat) (t:TypeId) (g:Nat) (hg:w.heap.size=g):(w.alloc (.cells #[.int .u64 (lo s:Int),.int .u64 (hi s:Int)] t)).rowIs g t 2 (pJ s):=jQ w _ _ t g hg
theorem zdS (w:World) (t:TypeId) (g:Nat) (hg:w.heap.size=g):(w.alloc (.cells #[.int .u64 0,.int .u64 0] t)).rowIs g t 2 (pJ 0):=jQ w _ _ t g hg
theorem zgX (w:World) (a b:Nat):Calls Tryz.prog 67 #[qm a,qm b] w fun e w'=>e = .returned (qm (a ||| b))∧Below w.heap.size w w':=by
 have h1:=u64_or_nat (lo a) (lo b) (yO a) (yO b);have h2:=u64_or_nat (hi a) (hi b) (yN a) (yN b);rw [← zko] at h1;rw [← zkv] at h2;go_enter Tryz.func67, Tryz.ntmps67;go_wp2;refine pR rfl (a ||| b) rfl (jQ _ _ _ _ _ (by simp)) rfl rfl rfl ⟨rfl,?_⟩;exact (((zx _ _).alloc (zu _) _).alloc (by simp) _).alloc (by simp;omega) _
theorem oe (w:World) (a b:Nat):Calls Tryz.prog 66 #[qm a,qm b] w fun e w'=>e = .returned (qm (a &&& b))∧Below w.heap.size w w':=by
 have h1:=u64_and_nat (lo a) (lo b) (yO a) (yO b);have h2:=u64_and_nat (hi a) (hi b) (yN a) (yN b);rw [← lo_and] at h1;rw [← hi_and] at h2;go_enter Tryz.func66, Tryz.ntmps66;go_wp2;refine pR rfl (a &&& b) rfl (jQ _ _ _ _ _ (by simp)) rfl rfl rfl ⟨rfl,?_⟩;exact (((zx _ _).alloc (zu _) _).alloc (by simp) _).alloc (by simp;omega) _
theorem zh1 (w:World) (a b:Nat):Calls Tryz.prog 100 #[qm a,qm b] w fun e w'=>e = .returned (qm (zP a b))∧Below w.heap.size w w':=by
 have h1:=u64_andNot_nat (lo a) (lo b) (yO a) (yO b);have h2:=u64_andNot_nat (hi a) (hi b) (yN a) (yN b);rw [← lo_minus] at h1;rw [← hi_minus] at h2;go_enter Tryz.func100, Tryz.ntmps100;go_wp2;refine pR rfl (zP a b) rfl (jQ _ _ _ _ _ (by simp)) rfl rfl rfl ⟨rfl,?_⟩;exact (((zx _ _).alloc (zu _) _).alloc (by simp) _).alloc (by simp;omega) _
theorem place_no (w:World) (v:Int) (h:v<1∨128<v):Calls Tryz.prog 166 #[.int .i64 v] w fun e w'=>e = .returned (.tuple #[.int .i64 0,.int .u64 0,.bool false])∧w=w':=by
 rcases h with h | h
 ·go_enter Tryz.func166, Tryz.ntmps166;go_wp2;go_ret3;exact ⟨rfl,rfl⟩
 ·have h':¬ v<1:=by omega
  go_enter Tryz.func166, Tryz.ntmps166;go_wp2;go_ret3;exact ⟨rfl,rfl⟩
theorem zcT (k:Nat) (h:k<64):IntKind.u64.wrap (2^k)=((2^k:Nat):Int):=by
 rw [IntKind.wrap_u64,Int.natCast_pow];have h1:2^k<2^64:=Nat.pow_lt_pow_right (by decide) h;have h2:((2^k:Nat):Int)<18446744073709551616:=by
  have:=Int.ofNat_lt.2 h1;omega
 rw [Int.natCast_pow] at h2;exact Int.emod_eq_of_lt (Int.pow_nonneg (by decide)) h2
theorem place_lo (w:World) (v:Int) (h1:1≤v) (h2:v≤64):Calls Tryz.prog 166 #[.int .i64 v] w fun e w'=>e = .returned (.tuple #[.int .i64 0,.int .u64 (lo (2^(v.toNat-1)):Int),.bool true])∧w=w':=by
 obtain ⟨n,rfl⟩:=Int.eq_ofNat_of_zero_le (show 0≤v by omega);have e:=zcT (n-1) (by omega);rw [zfL,if_pos (by omega),Int.toNat_natCast,← e];have e1:((n:Int)-1) / 64=0:=by omega
 have e2:(n-1)%64=n-1:=by omega
 have E1:=zb e1;clear e1;have E2:=zb e2;clear e2;clear e;go_enter Tryz.func166, Tryz.ntmps166;go_wp2;go_ret3;refine ⟨?_,rfl⟩;show Ending.returned (.tuple #[.int .i64 (((n:Int)-1) / 64),.int .u64 (IntKind.u64.wrap (2^((n-1)%64))),.bool true])=_;rw [E1.out,E2.out]
theorem place_hi (w:World) (v:Int) (h1:65≤v) (h2:v≤128):Calls Tryz.prog 166 #[.int .i64 v] w fun e w'=>e = .returned (.tuple #[.int .i64 1,.int .u64 (hi (2^(v.toNat-1)):Int),.bool true])∧w=w':=by
 obtain ⟨n,rfl⟩:=Int.eq_ofNat_of_zero_le (show 0≤v by omega);have e:=zcT (n-1-64) (by omega);rw [zfQ _ (by omega),if_neg (by omega),Int.toNat_natCast,← e];have e1:((n:Int)-1) / 64=1:=by omega
 have e2:(n-1)%64=n-1-64:=by omega
 have E1:=zb e1;clear e1;have E2:=zb e2;clear e2;clear e;go_enter Tryz.func166, Tryz.ntmps166;go_wp2;go_ret3;refine ⟨?_,rfl⟩;show Ending.returned (.tuple #[.int .i64 (((n:Int)-1) / 64),.int .u64 (IntKind.u64.wrap (2^((n-1)%64))),.bool true])=_;rw [E1.out,E2.out]
theorem ziB (w:World) (s:Nat) (v:Int):Calls Tryz.prog 136 #[qm s,.int .i64 v] w fun e w'=>e = .returned (qm (zZ s v))∧Below w.heap.size w w':=by
 have hbl:Below w.heap.size w ((w.alloc (.cells #[.int .u64 (lo s:Int),.int .u64 (hi s:Int)] 96)).alloc (.cells #[.int .u64 0,.int .u64 0] 96)):=((zx _ _).alloc (zu _) _).alloc (by simp) _;by_cases hv:1≤v∧v≤128
 ·obtain ⟨hv1,hv2⟩:=hv;have hw:zZ s v=s ||| 2^(v.toNat-1):=by unfold zZ;rw [if_pos ⟨hv1,hv2⟩]
  rw [hw];clear hw;by_cases h64:v≤64
  ·have h1:=u64_or_nat (lo s) (lo (2^(v.toNat-1))) (yO _) (yO _);rw [← zko] at h1;have h2:hi (s ||| 2^(v.toNat-1))=hi s:=by rw [zkv,zfQ _ (by omega),if_pos (by omega)];simp
   have H2:=zb h2;clear h2;go_enter Tryz.func136, Tryz.ntmps136;go_wp2_with (go_at_call 166;refine (place_lo _ v hv1 h64).mono ?_;rintro e w' ⟨rfl,rfl⟩)
   refine pR rfl (s ||| 2^(v.toNat-1)) rfl (jQ _ _ _ _ _ (by simp)) rfl (by rw [H2.out];rfl) rfl ⟨rfl,?_⟩;exact ((zx _ _).alloc (zu _) _).alloc (by simp) _
  ·have h1:=u64_or_nat (hi s) (hi (2^(v.toNat-1))) (yN _) (yN _);rw [← zkv] at h1;have h2:lo (s ||| 2^(v.toNat-1))=lo s:=by rw [zko,zfL,if_neg (by omega)];simp
   have H2:=zb h2;clear h2;go_enter Tryz.func136, Tryz.ntmps136;go_wp2_with (go_at_call 166;refine (place_hi _ v (by omega) hv2).mono ?_;rintro e w' ⟨rfl,rfl⟩)
   refine pR rfl (s ||| 2^(v.toNat-1)) rfl (jQ _ _ _ _ _ (by simp)) (by rw [H2.out];rfl) rfl rfl ⟨rfl,?_⟩;exact ((zx _ _).alloc (zu _) _).alloc (by simp) _
 ·have hw:zZ s v=s:=by unfold zZ;rw [if_neg hv]
  rw [hw];clear hw;go_enter Tryz.func136, Tryz.ntmps136;go_wp2_with (go_at_call 166;refine (place_no _ v (by omega)).mono ?_;rintro e w' ⟨rfl,rfl⟩)
  refine pR rfl s rfl (jQ _ _ _ _ _ (by simp)) rfl rfl rfl ⟨rfl,?_⟩;exact ((zx _ _).alloc (zu _) _).alloc (by simp) _
theorem of_list (w:World) (A:Option Addr) (c:Nat) (xs:List Int) (hn:xs.length≤1000000000) (hr:Rd w w.heap.size A xs.length (zO xs)) :
  Calls Tryz.prog 116 #[.slice A xs.length c] w fun e w'=>e = .returned (qm (xs.foldl zZ 0))∧Below w.heap.size w w':=by
 go_enter Tryz.func116, Tryz.ntmps116;go_wp2;go_loopw [8] (fun t wr=>∃ k:Nat,k≤xs.length∧t = .int .i64 k∧wr.rowIs w.heap.size 96 2 (pJ 0)∧wr.rowIs (w.heap.size+1) 96 2 (pJ ((xs.take k).foldl zZ 0))∧Below w.heap.size w wr)
  (fun t _=>xs.length-(intOf t).toNat)
 case atStart =>
  exact ⟨0,by omega,rfl,(zdS _ _ _ rfl).alloc _,zdS _ _ _ (by simp),((zx _ _).alloc (zu _) _).alloc (by simp) _⟩
 case round =>
  obtain ⟨k,hk,rfl,hx1,hx2,hbl⟩:=hrel;obtain ⟨hc1,hc2,hf1,hf2⟩:=yF hx2;by_cases hlt:k<xs.length
  ·obtain ⟨b,o,rfl,hb,hcs⟩:=hr (by omega);have hc3:=zB hbl hb (hcs k hlt);unfold zO at hc3;have ht:xs.take (k+1)=xs.take k++[xs[k]]:=List.take_succ_eq_append_getElem hlt;have HT:=zb ht;clear ht;go_wp2_with (go_at_call 136;refine (ziB _ _ _).mono ?_;rintro e w5 ⟨rfl,hb5⟩;have hx1':=zo hx1 hb5;have hx2':=zo hx2 hb5;obtain ⟨hc1',hc2',hf1',hf2'⟩:=yF hx2';have hbl':=Below.trans' hbl hb5 hbl.size)
   go_roundw
   case rel =>
    refine ⟨k+1,by omega,by go_num,(hx1'.setOther (by simp) _).setOther (by simp) _,(zeJ hx2' _).congr fun i _=>?_,(hbl'.setCell (by simp) _).setCell (by simp) _⟩;rw [HT.out,List.foldl_append];rfl
   case measure=>simp [intOf];omega
  ·obtain rfl:k=xs.length:=by omega
   obtain ⟨_,_,hf3,hf4⟩:=yF hx1;obtain ⟨hc3,hc4,_,_⟩:=yF hx1;go_wp2;refine pR rfl (xs.foldl zZ 0) rfl (zeJ hx1 _) rfl rfl rfl ⟨rfl,(hbl.setCell (zu _) _).setCell (zu _) _⟩
theorem zgb (k:Nat) (h:k<128):zZ (qo (k:Int)) ((k:Int)+1)=qo ((k:Int)+1):=by
 unfold zZ;rw [if_pos (by omega)];apply Nat.eq_of_testBit_eq;intro i;rw [Nat.testBit_or,Nat.testBit_two_pow,p6,p6];have e1:(min (k:Int) 128).toNat=k:=by omega
 have e2:(min ((k:Int)+1) 128).toNat=k+1:=by omega
 have e3:((k:Int)+1).toNat-1=k:=by omega
 rw [e1,e2,e3];by_cases h1:i<k
 ·have:i<k+1:=by omega
  simp [h1,this]
 ·by_cases h2:i=k
  ·subst h2;simp
  ·have h3:¬ i<k+1:=by omega
   have h4:¬ k=i:=by omega
   simp [h1,h3,h4]
theorem pF (n:Int):qo n=qo (((min n 128).toNat:Nat):Int):=by
 unfold qo;congr 2;omega
theorem all_any (w:World) (n:Int):Calls Tryz.prog 102 #[.int .i64 n] w fun e w'=>e = .returned (qm (qo n))∧Below w.heap.size w w':=by
 obtain ⟨m,hm⟩:∃ m:Nat,(min n 128).toNat=m:=⟨_,rfl⟩;rw [pF,hm];have hm1:m≤128:=by omega
 have h1:(m:Int)≤0∨(m:Int)≤n:=by omega
 have h2:n≤(m:Int)∨128≤m:=by omega
 clear hm;go_enter Tryz.func102, Tryz.ntmps102;go_wp2;go_loopw [4] (fun t wr=>∃ k:Nat,k≤m∧t = .int .i64 ((k:Int)+1)∧wr.rowIs w.heap.size 96 2 (pJ 0)∧wr.rowIs (w.heap.size+1) 96 2 (pJ (qo (k:Int)))∧Below w.heap.size w wr)
  (fun t _=>200-(intOf t).toNat)
 case atStart =>
  exact ⟨0,by omega,rfl,(zdS _ _ _ rfl).alloc _,zdS _ _ _ (by simp),((zx _ _).alloc (zu _) _).alloc (by simp) _⟩
 case round =>
  obtain ⟨k,hk,rfl,hx1,hx2,hbl⟩:=hrel;obtain ⟨hc1,hc2,hf1,hf2⟩:=yF hx2;by_cases hlt:k<m
  ·have hts:=zgb k (by omega);have HT:=zb hts;clear hts;go_wp2_with (go_at_call 136;refine (ziB _ _ _).mono ?_;rintro e w5 ⟨rfl,hb5⟩;have hx1':=zo hx1 hb5;have hx2':=zo hx2 hb5;obtain ⟨hc1',hc2',hf1',hf2'⟩:=yF hx2';have hbl':=Below.trans' hbl hb5 hbl.size)
   all_goals
    go_roundw
    case rel =>
     refine ⟨k+1,by omega,by go_num,(hx1'.setOther (by simp) _).setOther (by simp) _,(zeJ hx2' _).congr fun i _=>?_,(hbl'.setCell (by simp) _).setCell (by simp) _⟩;rw [HT.out];rfl
    case measure=>simp [intOf];omega
  ·obtain rfl:k=m:=by omega
   obtain ⟨hc3,hc4,hf3,hf4⟩:=yF hx1;go_wp2;all_goals exact pR rfl _ rfl (zeJ hx1 _) rfl rfl rfl ⟨rfl,(hbl.setCell (zu _) _).setCell (zu _) _⟩
theorem zda (w:World) (l:Int) (h0 : -9223372036854775808≤l) (h1:l≤9223372036854775807):Calls Tryz.prog 117 #[.int .i64 l] w fun e w'=>e = .returned (.int .i64 (zQ l))∧w=w':=by
 have hv:(1≤l∧l≤128→zQ l=l)∧(l≤-1∧-128≤l→zQ l = -l)∧(l < -128∨l=0∨128<l→zQ l=0):=by
  refine ⟨fun h=>by unfold zQ;rw [if_pos h],fun h=>by unfold zQ;rw [if_neg (by omega),if_pos h],fun h=>by unfold zQ;rw [if_neg (by omega),if_neg (by omega)]⟩
 have HV:=zb hv;clear hv;by_cases h2:1≤l
 ·by_cases h3:l≤128
  ·have h:=HV.out.1 ⟨h2,h3⟩;rw [h];clear h;go_enter Tryz.func117, Tryz.ntmps117;go_wp2;go_ret;exact ⟨rfl,rfl⟩
  ·have h:=HV.out.2.2 (by omega);rw [h];clear h;have h4:¬ l≤-1:=by omega
   go_enter Tryz.func117, Tryz.ntmps117;go_wp2;go_ret;exact ⟨rfl,rfl⟩
 ·by_cases h3:l≤-1
  ·by_cases h4 : -128≤l
   ·have h:=HV.out.2.1 ⟨h3,h4⟩;rw [h];clear h;go_enter Tryz.func117, Tryz.ntmps117;go_wp2;go_ret;exact ⟨rfl,rfl⟩
   ·have h:=HV.out.2.2 (by omega);rw [h];clear h;go_enter Tryz.func117, Tryz.ntmps117;go_wp2;go_ret;exact ⟨rfl,rfl⟩
  ·have h:=HV.out.2.2 (by omega);rw [h];clear h;go_enter Tryz.func117, Tryz.ntmps117;go_wp2;go_ret;exact ⟨rfl,rfl⟩
theorem zeh (w:World) (l n:Int) (h0 : -9223372036854775808≤l) (h1:l≤9223372036854775807):Calls Tryz.prog 134 #[.int .i64 l,.int .i64 n] w fun e w'=>e = .returned (.bool (qh l n))∧w=w':=by
 have hle:=zdH l;have hv:(zQ l=0→qh l n=false)∧(zQ l≠0→qh l n=decide (zQ l≤n)):=by
  refine ⟨fun h=>by unfold qh;simp [h],fun h=>by unfold qh;simp [h]⟩
 have HV:=zb hv;clear hv;have hc:=fun W=>zda W l h0 h1;obtain ⟨x,hx⟩:∃ x,zQ l=x:=⟨_,rfl⟩;rw [hx] at hc HV hle;clear hx;have HC:=zb hc;clear hc;by_cases h2:x=0
 ·have h:=HV.out.1 h2;rw [h];clear h;have h3:(x != 0)=false:=by rw [bne_eq_false_iff_eq];exact h2
  clear h2;go_enter Tryz.func134, Tryz.ntmps134;go_wp2_with (go_at_call 117;refine (HC.out _).mono ?_;rintro e w' ⟨rfl,rfl⟩)
  go_ret;exact ⟨rfl,rfl⟩
 ·have h:=HV.out.2 h2;rw [h];clear h;have h3:(x != 0)=true:=by rw [bne_iff_ne];exact h2
  clear h2;go_enter Tryz.func134, Tryz.ntmps134;go_wp2_with (go_at_call 117;refine (HC.out _).mono ?_;rintro e w' ⟨rfl,rfl⟩)
  go_ret;exact ⟨rfl,rfl⟩
end Go.Proofs.YtmhllppjcilllaaGreatDoor
end
section
open Go Go.RowKit Cs
namespace Go.Proofs.YtmhllppjcilllaaGreatDoor
open Go.Shelf
def Tab (w:World):Prop:=∀ j,j<64→w.cell? ⟨1,j,none⟩=some (.int .u8 (Lib.deBruijn64tab.getD j 0))
theorem Tab.lt {w:World} (h:Tab w):1<w.heap.size:=World.block_lt_of_cell? w _ (h 0 (by decide))
theorem Tab.below' {w w':World} {B:Nat} (h:Tab w) (hb:Below B w w') (hB:1<B):Tab w':=fun j hj=>(hb.cell (p:=⟨1,j,none⟩) hB).trans (h j hj)
theorem Tab.below {w w':World} (h:Tab w) (hb:Below w.heap.size w w'):Tab w':=h.below' hb h.lt
theorem tz_key (x a:Nat) (hx:x<18446744073709551616) (hx0:x≠0) (hlow:x &&& (18446744073709551616-x)=a) :
  IntKind.u64.wrap (bits BinOp.and IntKind.u64 (x:Int) (IntKind.u64.wrap (-(x:Int)))*285870213051353865) / 288230376151711744=((a*285870213051353865%18446744073709551616 / 288230376151711744:Nat):Int):=by
 have e1:IntKind.u64.wrap (-(x:Int))=((18446744073709551616-x:Nat):Int):=by rw [IntKind.wrap_u64];omega
 rw [e1,u64_and_nat x _ hx (by omega),hlow,IntKind.wrap_u64];omega
theorem tz_core (x k idx:Nat) (w:World) (hx0:((x:Int)==0)=false)
  (key:IntKind.u64.wrap (bits BinOp.and IntKind.u64 (x:Int) (IntKind.u64.wrap (-(x:Int)))*285870213051353865) / 288230376151711744=(idx:Int))
  (hi:idx<64) (hk:k<64) (hcell:w.cell? ⟨1,idx,none⟩=some (.int .u8 k)) :
  Calls Tryz.prog 169 #[.int .u64 x] w fun e w'=>e = .returned (.int .i64 k)∧w=w':=by
 go_enter Tryz.func169, Tryz.ntmps169;go_wp2_with (simp only [key])
 go_ret;exact ⟨rfl,rfl⟩
theorem tz_any (x:Nat) (h0:x≠0) (hx:x<18446744073709551616) (w:World) (hT:Tab w) :
  Calls Tryz.prog 169 #[.int .u64 x] w fun e w'=>e = .returned (.int .i64 (Lib.ctz 64 x))∧w=w':=by
 obtain ⟨hlow,hk⟩:=Lib.lowest_bit 64 x h0 hx;obtain ⟨hi,htab⟩:=Lib.deBruijn64_at _ hk;have hcell:=hT _ hi;rw [htab] at hcell;exact tz_core x _ _ w (by rw [beq_eq_false_iff_ne];omega) (tz_key x _ hx h0 hlow) hi hk hcell
attribute [local go_sem] Oper.semAt_some
theorem mem1_in (n:Nat) (hn:1≤n) (l Bm n₀ s:Nat) (hn₀:1<n₀) (J Jx:List Int→World→Prop)
  (hY:∀ pre x W,J pre W→pre.length<128→YieldAt Fence.wide (n-1) Tryz.prog l #[.int .i64 x] W fun e W' =>
    (e = .returned (.bool true)∧J (pre++[x]) W'∧Below n₀ W W')∨(e = .returned (.bool false)∧Jx (pre++[x]) W'))
  (W:World) (hT:Tab W) (hc0:W.cell? ⟨Bm,0,none⟩=some (.int .u64 (lo s:Int))) (hc1:W.cell? ⟨Bm,1,none⟩=some (.int .u64 (hi s:Int))) (h0:J [] W) :
  CallsIn Fence.wide n Tryz.prog 168 #[.func (.yield l) #[] #[],.pointer (some ⟨Bm,0,none⟩)] W fun e W'=>(∃ v,e = .returned v) ∧
   ((∃ ys,ys=vl s∧J ys W')∨(∃ pre,pre <+: vl s∧Jx pre W')):=by
 refine callsIn_of_wp Tryz.func168 rfl trivial ?_ rfl;simp only [Tryz.ntmps168,List.size_toArray,List.length_cons,List.length_nil,Nat.reduceAdd,Nat.reduceSub,Array.replicate_succ,Array.replicate_zero,List.push_toArray,List.append_toArray,List.nil_append,List.cons_append];have i0:∀ w,(Instr.index 96 (.agg #[.int .u64 (lo s:Int),.int .u64 (hi s:Int)]) (.int .i64 0)).run Tryz.prog w = .ok (.int .u64 (lo s:Int)) w:=fun _=>by kernel_rfl
 have i1:∀ w,(Instr.index 96 (.agg #[.int .u64 (lo s:Int),.int .u64 (hi s:Int)]) (.int .i64 1)).run Tryz.prog w = .ok (.int .u64 (hi s:Int)) w:=fun _=>by kernel_rfl
 gi_wp2
 gi_loopw [6] (fun j wr=>∃ (k:Nat) (pre:List Int),k≤2∧j = .int .i64 k∧Hid (k=0→pre=[])∧Hid (k=1→pre=(bl 64 (lo s)).map f0)∧Hid (k=2→pre=vl s)∧J pre wr∧Tab wr)
  (fun j _=>2-(intOf j).toNat)
 case atStart=>exact ⟨0,[],by omega,rfl,fun _=>rfl,fun h=>by omega,fun h=>by omega,h0,hT⟩
 case round =>
  obtain ⟨k,pre,hk,rfl,H0,H1,H2,hJ,hT'⟩:=hrel;have hk3:k=0∨k=1∨k=2:=by omega
  rcases hk3 with rfl | rfl | rfl
  ·have hpre:pre=([]:List Int):=H0.out rfl;subst hpre;clear H0 H1 H2;rw [show ((0:Nat):Int)=0 from rfl]
   gi_wp2
   gi_loopw [4] (fun v wr=>∃ (x:Nat) (dn:List Nat),v = .int .u64 x∧x<18446744073709551616∧Hid (bl 64 (lo s)=dn++bl 64 x)∧J (([]:List Int)++dn.map f0) wr∧Tab wr)
    (fun v _=>(intOf v).toNat)
   case atStart=>exact ⟨lo s,[],rfl,yO s,rfl,by simpa using hJ,hT'⟩
   case round =>
    clear hJ hT';obtain ⟨x,dn,rfl,hx,HX,hJ,hT'⟩:=hrel;by_cases hx0:x=0
    ·have hb1:((x:Int) != 0)=false:=by rw [bne_eq_false_iff_eq];omega
     have hfin:Hid (([]:List Int)++dn.map f0=([]:List Int)++(bl 64 (lo s)).map f0):=by
      have:=HX.out;rw [hx0,ou,List.append_nil] at this;rw [this];rfl
     clear hx0
     gi_wp2
     rw [hfin.out] at hJ;go_roundw
     case rel=>exact ⟨1,_,by omega,by simp,fun h=>by omega,fun h=>by first | omega | rfl,fun h=>by first | omega | rfl,hJ,hT'⟩
     case measure=>simp [intOf]
    ·have hb1:((x:Int) != 0)=true:=by rw [bne_iff_ne];omega
     have hlow:=bl_low x hx0 (by omega);have htz:=fun W hW=>tz_any x hx0 hx W hW;have hand:=u64_and_nat x (x-1) hx (by omega);have hcast:((x-1:Nat):Int)=(x:Int)-1:=by omega
     rw [hcast] at hand;have hlt:x &&& (x-1)<x:=Nat.lt_of_le_of_lt Nat.and_le_right (by omega);obtain ⟨k,hk'⟩:∃ k,Lib.ctz 64 x=k:=⟨_,rfl⟩;rw [hk'] at hlow htz;have HT:=zb htz;clear htz hk';have hk64:k<64:=by
      have:k∈bl 64 x:=by rw [hlow];exact List.mem_cons_self
      have:=(List.mem_filter.1 this).1;simpa using this
     have HX2:Hid (bl 64 (lo s)=(dn++[k])++bl 64 (x &&& (x-1))):=by
      have:=HX.out;rw [hlow] at this;show _=_;rw [this];simp
     have hlen:(([]:List Int)++dn.map f0).length<128:=by
      have h1:=zjD (lo s);have h2:=zjD (lo s);rw [HX2.out] at h1;simp at h1 ⊢;omega
     have hmap:([]:List Int)++(dn++[k]).map f0=(([]:List Int)++dn.map f0)++[(k:Int)+1]:=by simp [f0]
     have HM:=zb hmap;clear hmap hlow;have H0':1≤x:=by omega
     clear hx0;obtain ⟨fn,tmps,assign,body,hy,hR⟩:=hY _ ((k:Int)+1) wr hJ hlen;have HR:=zb hR;clear hR
     gi_wp2_with (refine ⟨trivial,?_⟩;gi_at_call 169;refine (callsIn_wide.2 (HT.out _ hT')).mono ?_;rintro e w' ⟨rfl,rfl⟩)
     refine HR.out.mono ?_;rintro e W3 (⟨rfl,hJ3,hk3⟩ | ⟨rfl,hJx3⟩)
     ·have hT3:=hT'.below' hk3 hn₀
      gi_wp2
      go_roundw
      case rel=>exact ⟨x &&& (x-1),dn++[k],rfl,by omega,HX2,by rw [HM.out];exact hJ3,hT3⟩
      case measure=>simp [intOf];omega
     ·gi_wp2
      refine bodyPost_ret (results_none rfl _ _ _) rfl ?_;refine ⟨⟨_,rfl⟩,.inr ⟨_,?_,hJx3⟩⟩;rw [← HM.out,vl_f];have h:=HX2.out;exact ⟨(bl 64 (x &&& (x-1))).map f0++(bl 64 (hi s)).map f1,by rw [h];simp⟩
  ·have hpre:pre=((bl 64 (lo s)).map f0):=H1.out rfl;subst hpre;clear H0 H1 H2;rw [show ((1:Nat):Int)=1 from rfl]
   gi_wp2
   gi_loopw [4] (fun v wr=>∃ (x:Nat) (dn:List Nat),v = .int .u64 x∧x<18446744073709551616∧Hid (bl 64 (hi s)=dn++bl 64 x)∧J (((bl 64 (lo s)).map f0)++dn.map f1) wr∧Tab wr)
    (fun v _=>(intOf v).toNat)
   case atStart=>exact ⟨hi s,[],rfl,yN s,rfl,by simpa using hJ,hT'⟩
   case round =>
    clear hJ hT';obtain ⟨x,dn,rfl,hx,HX,hJ,hT'⟩:=hrel;by_cases hx0:x=0
    ·have hb1:((x:Int) != 0)=false:=by rw [bne_eq_false_iff_eq];omega
     have hfin:Hid (((bl 64 (lo s)).map f0)++dn.map f1=((bl 64 (lo s)).map f0)++(bl 64 (hi s)).map f1):=by
      have:=HX.out;rw [hx0,ou,List.append_nil] at this;rw [this];rfl
     clear hx0
     gi_wp2
     rw [hfin.out] at hJ;go_roundw
     case rel=>exact ⟨2,_,by omega,by simp,fun h=>by omega,fun h=>by first | omega | rfl,fun h=>by first | omega | rfl,hJ,hT'⟩
     case measure=>simp [intOf]
    ·have hb1:((x:Int) != 0)=true:=by rw [bne_iff_ne];omega
     have hlow:=bl_low x hx0 (by omega);have htz:=fun W hW=>tz_any x hx0 hx W hW;have hand:=u64_and_nat x (x-1) hx (by omega);have hcast:((x-1:Nat):Int)=(x:Int)-1:=by omega
     rw [hcast] at hand;have hlt:x &&& (x-1)<x:=Nat.lt_of_le_of_lt Nat.and_le_right (by omega);obtain ⟨k,hk'⟩:∃ k,Lib.ctz 64 x=k:=⟨_,rfl⟩;rw [hk'] at hlow htz;have HT:=zb htz;clear htz hk';have hk64:k<64:=by
      have:k∈bl 64 x:=by rw [hlow];exact List.mem_cons_self
      have:=(List.mem_filter.1 this).1;simpa using this
     have HX2:Hid (bl 64 (hi s)=(dn++[k])++bl 64 (x &&& (x-1))):=by
      have:=HX.out;rw [hlow] at this;show _=_;rw [this];simp
     have hlen:(((bl 64 (lo s)).map f0)++dn.map f1).length<128:=by
      have h1:=zjD (hi s);have h2:=zjD (lo s);rw [HX2.out] at h1;simp at h1 ⊢;omega
     have hmap:((bl 64 (lo s)).map f0)++(dn++[k]).map f1=(((bl 64 (lo s)).map f0)++dn.map f1)++[64+(k:Int)+1]:=by simp [f1]
     have HM:=zb hmap;clear hmap hlow;have H0':1≤x:=by omega
     clear hx0;obtain ⟨fn,tmps,assign,body,hy,hR⟩:=hY _ (64+(k:Int)+1) wr hJ hlen;have HR:=zb hR;clear hR
     gi_wp2_with (refine ⟨trivial,?_⟩;gi_at_call 169;refine (callsIn_wide.2 (HT.out _ hT')).mono ?_;rintro e w' ⟨rfl,rfl⟩)
     refine HR.out.mono ?_;rintro e W3 (⟨rfl,hJ3,hk3⟩ | ⟨rfl,hJx3⟩)
     ·have hT3:=hT'.below' hk3 hn₀
      gi_wp2
      go_roundw
      case rel=>exact ⟨x &&& (x-1),dn++[k],rfl,by omega,HX2,by rw [HM.out];exact hJ3,hT3⟩
      case measure=>simp [intOf];omega
     ·gi_wp2
      refine bodyPost_ret (results_none rfl _ _ _) rfl ?_;refine ⟨⟨_,rfl⟩,.inr ⟨_,?_,hJx3⟩⟩;rw [← HM.out,vl_f];have h:=HX2.out;rw [h,List.map_append (l₁:=dn++[k]),← List.append_assoc];exact ⟨_,rfl⟩
  ·have hpre:pre=vl s:=H2.out rfl;subst hpre;clear H0 H1 H2
   gi_wp2
   go_end0;exact ⟨⟨_,rfl⟩,.inl ⟨_,rfl,hJ⟩⟩
theorem xW (n:Nat) (hn:1≤n) (Bm n₀ s:Nat) (w:World) (hT:Tab w) (hBm:Bm<w.heap.size) (hn₀:1<n₀) (hn1:n₀≤w.heap.size)
  (hc0:w.cell? ⟨Bm,0,none⟩=some (.int .u64 (lo s:Int))) (hc1:w.cell? ⟨Bm,1,none⟩=some (.int .u64 (hi s:Int))) :
  SeqStopsK Fence.wide n Tryz.prog 168 #[.pointer (some ⟨Bm,0,none⟩)] (fun x:Int=>#[Value.int .i64 x]) (Below n₀) (fun ys=>ys=vl s) (fun pre=>pre <+: vl s) 128 w:=fun l J Jx W hW _ _ hY h0 =>
 mem1_in n hn l Bm n₀ s hn₀ J Jx hY W (hT.below hW) (zC hW hc0 hBm) (zC hW hc1 hBm) h0
theorem zir (w:World) (s:Nat):Calls Tryz.prog 141 #[qm s] w fun e w' =>
  e = .returned (.func (.func 168) #[] #[.pointer (some ⟨w.heap.size,0,none⟩)])∧w'=w.alloc (.cells #[.int .u64 (lo s:Int),.int .u64 (hi s:Int)] 96):=by
 go_enter Tryz.func141, Tryz.ntmps141;go_wp2;go_ret;exact ⟨rfl,rfl⟩
theorem zdc:(Tryz.prog.info? 3).map (fun i=>(i.zero,i.size,i.bytes))=some (some (.int .i64 0),1,8):=by kernel_rfl
theorem zhK (n:Nat) (hn:3≤n) (Bm s:Nat) (w:World) (hT:Tab w) (hBm:Bm<w.heap.size)
  (hc0:w.cell? ⟨Bm,0,none⟩=some (.int .u64 (lo s:Int))) (hc1:w.cell? ⟨Bm,1,none⟩=some (.int .u64 (hi s:Int))) :
  CallsIn Fence.wide n Tryz.prog 167 #[.slice none 0 0,.func (.func 168) #[] #[.pointer (some ⟨Bm,0,none⟩)]] w fun e W' =>
   ∃ v,e = .returned v∧W'.ownsRow w.heap.size 3 1 v (vl s).length ((vl s).map (Value.int .i64))∧Below w.heap.size w W':=by
 have h1:1≤n:=by omega
 obtain ⟨i0,hi,hz0,hz1,hz2⟩:=info_parts zdc;refine callsIn_of_wp_marks Tryz.func167 rfl trivial ?_ rfl;simp only [Tryz.ntmps167,List.size_toArray,List.length_cons,List.length_nil,Nat.reduceAdd,Nat.reduceSub,Array.replicate_succ,Array.replicate_zero,List.push_toArray,List.append_toArray,List.nil_append,List.cons_append]
 gi_wp2
 have bO:=Boxed.new w 26 (.slice none 0 0);have hB0:Below w.heap.size w (w.alloc (.cells #[.slice none 0 0] 26)):=(Below.refl _ w).alloc (zu _) _;refine wpIn_rangeFunc_ownG rfl h1 (gf:=168) (lb:=#[.pointer (some ⟨Bm,0,none⟩)]) rfl trivial (enters_of Tryz.func168 (by kernel_rfl) rfl)
  (xW (n-1) (by omega) Bm w.heap.size s _ (hT.below hB0) (by simp;omega) hT.lt (by simp) (zC hB0 hc0 hBm) (zC hB0 hc1 hBm)) belowK_t (belowK_b (by simp)) (zx _ _) (fun _=>rfl)
  (fun pre W=>(∃ v,Boxed W w.heap.size 26 v∧W.ownsRow w.heap.size 3 1 v pre.length (pre.map (Value.int .i64))∧True)∧Below w.heap.size w W)
  (fun _ _ _=>False)
  (OwnFrom.and (Own.from (holdsRow_own w.heap.size w.heap.size 26 3 1 (fun pre:List Int=>pre.length) (fun pre:List Int=>pre.map (Value.int .i64)) (fun _ _=>True)) _) (ownFrom_below (zu _) (by simp)))
  (fun _ _ _ _ _ hs _ _=>hs)
  ⟨⟨_,bO,World.ownsRow_nil _ _ _ _,trivial⟩,hB0⟩
  (fun x=>{ tmps:=#[.slice none 0 0,.func (.func 168) #[] #[.pointer (some ⟨Bm,0,none⟩)],.pointer (some ⟨w.heap.size,0,none⟩),undef,.slice none 0 0,.int .i64 x,.func (.func 168) #[] #[.pointer (some ⟨Bm,0,none⟩)],.int .i64 x,undef,undef,undef,undef,undef],defers:=[] }) ?assign ?body ?done ?stop
 case assign =>
  intro l x W K hK
  gi_wp2
  exact hK
 case body =>
  rintro l pre x W ⟨⟨v,hv,hrow,_⟩,hB⟩ hlt;have hc:=hv.cell
  gi_wp2_with (gi_at_builtin;refine wpListIn_append_own _ rfl _ _ 26 rfl w.heap.size 3 i0 (.int .i64 0) 1 8 Tryz.underlying26 hi hz0 hz1 hz2 rfl (by decide) _ _ _ rfl (hrow.alloc _) ⟨W.heap.size,0,none⟩ 1 1 [.int .i64 x] rfl rfl (cell_one_new _ _ _) (by simp [Value.oneCell']) (by unfold maxLen;omega) (by omega) (by have:=hB.size;simp;omega) ?_;intro v' w1 hown' hgrow _;obtain ⟨g',cap',rfl⟩:=ownsRow_succ hown';obtain ⟨hv1,hv2,hr2,hk2,hb2⟩:=hv.appended (by decide) hrow hB.size (zu _) hown' hgrow;have hc1:=hv1.cell;have hf1:=hv1.frozen)
  exact ⟨hk2.from _,hb2,⟨_,hv2,by simpa using hr2,trivial⟩,hB.trans hb2⟩
 case done =>
  rintro D ys W hD rfl ⟨⟨v,hv,hrow,_⟩,hB⟩ hK;have hc:=hv.cell
  gi_wp2
  refine ⟨by simp,.inl ⟨_,_,rfl,run_takeDeferred hK,?_⟩⟩;exact ⟨_,results_tmp rfl _ _ _,v,rfl,ownsRow_putObj hrow _ hK rfl,hB.trans (belowK_b (w:=w) (zu _) W D _ _ (by simp at hD;omega) hK rfl rfl)⟩
 case stop =>
  rintro D c pre W _ _ h _;exact h.elim
theorem zgV (w:World) (s:Nat) (hT:Tab w):Calls Tryz.prog 99 #[qm s] w fun e w' =>
  ∃ v,e = .returned v∧w'.ownsRow w.heap.size 3 1 v (vl s).length ((vl s).map (Value.int .i64))∧Below w.heap.size w w':=by
 have happ:=fun (W:World) (B:Nat) h1 h2 h3 h4=>callsIn_wide.1 (zhK 3 (by omega) B s W h1 h2 h3 h4);have HA:=zb happ;clear happ;have hcol:∀ (W:World) (B:Nat),Tab W→B<W.heap.size→W.cell? ⟨B,0,none⟩=some (.int .u64 (lo s:Int))→W.cell? ⟨B,1,none⟩=some (.int .u64 (hi s:Int)) →
   Calls Tryz.prog 140 #[.func (.func 168) #[] #[.pointer (some ⟨B,0,none⟩)]] W fun e W' =>
    ∃ v,e = .returned v∧W'.ownsRow W.heap.size 3 1 v (vl s).length ((vl s).map (Value.int .i64))∧Below W.heap.size W W':=by
  intro W B h1 h2 h3 h4;have hc:=HA.out W B h1 h2 h3 h4;have HC:=zb hc;clear hc h1 h2 h3 h4;go_enter Tryz.func140, Tryz.ntmps140;go_wp2_with (go_at_call 167;refine HC.out.mono ?_;rintro e w' ⟨v,rfl,hr,hb⟩)
  go_ret;exact ⟨v,rfl,hr,hb⟩
 have HC:=zb hcol;clear hcol HA;have hB1:Below w.heap.size w ((w.alloc (.cells #[.int .u64 (lo s:Int),.int .u64 (hi s:Int)] 96)).alloc (.cells #[.int .u64 (lo s:Int),.int .u64 (hi s:Int)] 96)):=((Below.refl _ w).alloc (zu _) _).alloc (by simp) _;go_enter Tryz.func99, Tryz.ntmps99;go_wp2_with (first
  | (go_at_call 141;refine (zir _ s).mono ?_;rintro e w' ⟨rfl,rfl⟩)
  | (go_at_call 140;refine (HC.out _ _ (hT.below hB1) (by simp) (by go_simp) (by go_simp)).mono ?_;rintro e w' ⟨v,rfl,hr,hb⟩))
 go_ret;refine ⟨v,rfl,?_,hB1.trans (hb.mono (by simp;omega))⟩;obtain ⟨h1,h2⟩:=hr;refine ⟨h1,?_⟩;rcases h2 with h2 | ⟨g,cap,cur,hv,hg,r⟩
 ·exact .inl h2
 ·exact .inr ⟨g,cap,cur,hv,by simp at hg;omega,r⟩
end Go.Proofs.YtmhllppjcilllaaGreatDoor
end
