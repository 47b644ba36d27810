import Derived.Test.YtoljkoifgnmbgaaGreatDoorAo
import Derived.Test.YtoljkoifgnmbgaaGreatDoorRP
set_option linter.unusedSimpArgs false
set_option linter.unusedVariables false
set_option maxRecDepth 100000
set_option maxHeartbeats 8000000
open Go Go.RowKit Cs
namespace Cs
def zL (T:List Int) (X:List Nat):List Nat:=(List.range X.length).map fun (i:Nat)=>if (i:Int)∈T then 0 else X.getD i 0
def zH (T:List Int) (X:List Nat):List Nat:=(List.range X.length).map fun (i:Nat)=>if -(i:Int)∈T then 0 else X.getD i 0
theorem zdK (T:List Int) (X:List Nat) (i:Nat):(zL T X).getD i 0=if (i:Int)∈T then 0 else X.getD i 0:=by
 unfold zL;rw [List.getD_eq_getElem?_getD,List.getElem?_map];rcases Nat.lt_or_ge i X.length with h | h
 ·rw [List.getElem?_range h];rfl
 ·rw [List.getElem?_eq_none (by simpa using h),List.getD_eq_getElem?_getD,List.getElem?_eq_none h];split <;> rfl
theorem zdL (T:List Int) (X:List Nat) (i:Nat):(zH T X).getD i 0=if -(i:Int)∈T then 0 else X.getD i 0:=by
 unfold zH;rw [List.getD_eq_getElem?_getD,List.getElem?_map];rcases Nat.lt_or_ge i X.length with h | h
 ·rw [List.getElem?_range h];rfl
 ·rw [List.getElem?_eq_none (by simpa using h),List.getD_eq_getElem?_getD,List.getElem?_eq_none h];split <;> rfl
end Cs
namespace Go.Proofs.YtoljkoifgnmbgaaGreatDoor
def StrR (w:World) (g:Nat) (t:TypeId) (cap m:Nat) (X:List Nat):Prop:=∃ F,w.rowIs g t cap F∧m≤cap∧∀ i,i<m→F i=zS X i
section
variable {w w':World} {g cap m:Nat} {t:TypeId} {X:List Nat}
theorem StrR.below (h:StrR w g t cap m X) (hb:Below w.heap.size w w'):StrR w' g t cap m X:=let ⟨F,h1,h2,h3⟩:=h;⟨F,zh h1 hb,h2,h3⟩
theorem StrR.setOther (h:StrR w g t cap m X) {a:Addr} (ha:g≠a.block) (v:Value):StrR (w.setCell a v) g t cap m X:=let ⟨F,h1,h2,h3⟩:=h;⟨F,h1.setOther ha v,h2,h3⟩
theorem StrR.lt (h:StrR w g t cap m X):g<w.heap.size:=let ⟨F,h1,_,_⟩:=h;h1.lt
theorem StrR.cell (h:StrR w g t cap m X) (i:Nat) (hi:i<m):w.cell? ⟨g,i,none⟩=some (.string (zj (X.getD i 0))):=by
 obtain ⟨F,h1,h2,h3⟩:=h;rw [h1.cell (i:=i) (by omega),h3 i hi];rfl
theorem StrR.frozen (h:StrR w g t cap m X) (i:Nat):w.frozen? ⟨g,i,none⟩=false:=let ⟨F,h1,_,_⟩:=h;h1.frozen i
theorem StrR.put (h:StrR w g t cap m X) (i x:Nat) {Y:List Nat} (hY:∀ j,j<m→Y.getD j 0=if j=i then x else X.getD j 0):StrR (w.setCell ⟨g,i,none⟩ (.string (zj x))) g t cap m Y:=by
 obtain ⟨F,h1,h2,h3⟩:=h;refine ⟨_,h1.set i (.string (zj x)),h2,fun j hj=>?_⟩;unfold zS;rw [hY j hj];by_cases e:j=i
 ·rw [if_pos e,if_pos e]
 ·rw [if_neg e,if_neg e,h3 j hj];rfl
theorem StrR.rd (h:StrR w g t cap m X):Rd w w.heap.size (some ⟨g,0,none⟩) m (zS X):=by
 obtain ⟨F,h1,h2,h3⟩:=h;exact (Rd.of_row h1 h2 h1.lt).congr h3
end
theorem zgJ {W:World} {b o m B:Nat} {X:List Nat} (h:∀ i,i<m→W.cell? ⟨b,o+i,none⟩=some (zS X i)):∀ j u,((List.range m).map (zS X))[j]?=some u→W.cell? ((⟨b,o,none⟩:Addr).add j)=some u:=fun j u hu=>by
 have hj:j<m:=by
  have:=(List.getElem?_eq_some_iff.1 hu).1;simpa using this
 have hadd:(⟨b,o,none⟩:Addr).add j=⟨b,o+j,none⟩:=by unfold Addr.add;split <;> simp_all
 rw [hadd,h j hj];rw [List.getElem?_map,List.getElem?_range hj] at hu;exact hu
theorem zk2 {m:Nat} {X:List Nat}:∀ u∈(List.range m).map (zS X),u.oneCell'=true:=fun u hu=>by
 obtain ⟨i,_,rfl⟩:=List.mem_map.1 hu;rfl
theorem zfE {w:World} {base:Nat} {t:TypeId} {v:Value} {n:Nat} {X:List Nat} (h:w.ownsRow base t 1 v (n+1) ((List.range (n+1)).map (zS X))):∃ g cap,v = .slice (some ⟨g,0,none⟩) (n+1) cap∧base≤g∧StrR w g t cap (n+1) X:=by
 obtain ⟨g,cap,f,rfl,h1,h2,h3,h4,h5⟩:=zeW h (by omega);rw [Nat.mul_one] at h4;refine ⟨g,cap,rfl,h1,f,h4,h3,fun i hi=>?_⟩;have:=h5 i (by omega);rw [List.getElem?_map,List.getElem?_range hi] at this;injection this with this;exact this.symm
structure SmAt (w:World) (n g1 c1 g2 c2:Nat) (X Y:List Nat) (W:World):Prop where
 bl:Below w.heap.size w W
 a:StrR W g1 9 c1 (n+1) X
 b:StrR W g2 9 c2 (n+1) Y
 la:w.heap.size≤g1
 lb:w.heap.size≤g2
 ne:g1≠g2
section
variable {w W W':World} {n g1 c1 g2 c2:Nat} {X Y X' Y':List Nat}
theorem SmAt.putA (h:SmAt w n g1 c1 g2 c2 X Y W) (i:Nat) (hX:∀ j,j<n+1→X'.getD j 0=if j=i then 0 else X.getD j 0) (hY:∀ j,j<n+1→Y'.getD j 0=Y.getD j 0):SmAt w n g1 c1 g2 c2 X' Y' (W.setCell ⟨g1,i,none⟩ (.string ⟨#[48]⟩)):=by
 rw [← jP];refine ⟨h.bl.setCell h.la _,h.a.put i 0 hX,?_,h.la,h.lb,h.ne⟩;obtain ⟨F,f1,f2,f3⟩:=h.b.setOther (a:=⟨g1,i,none⟩) (fun e=>h.ne e.symm) (.string (zj 0));exact ⟨F,f1,f2,fun j hj=>by rw [f3 j hj];unfold zS;rw [hY j hj]⟩
theorem SmAt.putB (h:SmAt w n g1 c1 g2 c2 X Y W) (i:Nat) (hX:∀ j,j<n+1→X'.getD j 0=X.getD j 0) (hY:∀ j,j<n+1→Y'.getD j 0=if j=i then 0 else Y.getD j 0):SmAt w n g1 c1 g2 c2 X' Y' (W.setCell ⟨g2,i,none⟩ (.string ⟨#[48]⟩)):=by
 rw [← jP];refine ⟨h.bl.setCell h.lb _,?_,h.b.put i 0 hY,h.la,h.lb,h.ne⟩;obtain ⟨F,f1,f2,f3⟩:=h.a.setOther (a:=⟨g2,i,none⟩) h.ne (.string (zj 0));exact ⟨F,f1,f2,fun j hj=>by rw [f3 j hj];unfold zS;rw [hX j hj]⟩
end
theorem z_pos {T:List Int} {X Y:List Nat} {i:Nat} (h1:1≤i):(∀ j,(zL (T++[(i:Int)]) X).getD j 0=if j=i then 0 else (zL T X).getD j 0)∧∀ j,(zH (T++[(i:Int)]) Y).getD j 0=(zH T Y).getD j 0:=by
 refine ⟨fun j=>?_,fun j=>?_⟩
 ·rw [zdK,zdK];by_cases e:j=i
  ·rw [if_pos e,if_pos (by subst e;simp)]
  ·rw [if_neg e];by_cases h:(j:Int)∈T
   ·rw [if_pos h,if_pos (List.mem_append_left _ h)]
   ·rw [if_neg h,if_neg (fun hm=>by
     rcases List.mem_append.1 hm with hm | hm
     ·exact h hm
     ·have:=List.mem_singleton.1 hm;omega)]
 ·rw [zdL,zdL];by_cases h : -(j:Int)∈T
  ·rw [if_pos h,if_pos (List.mem_append_left _ h)]
  ·rw [if_neg h,if_neg (fun hm=>by
    rcases List.mem_append.1 hm with hm | hm
    ·exact h hm
    ·have:=List.mem_singleton.1 hm;omega)]
theorem z_neg {T:List Int} {X Y:List Nat} {i:Nat} (h1:1≤i):(∀ j,(zL (T++[-(i:Int)]) X).getD j 0=(zL T X).getD j 0)∧∀ j,(zH (T++[-(i:Int)]) Y).getD j 0=if j=i then 0 else (zH T Y).getD j 0:=by
 refine ⟨fun j=>?_,fun j=>?_⟩
 ·rw [zdK,zdK];by_cases h:(j:Int)∈T
  ·rw [if_pos h,if_pos (List.mem_append_left _ h)]
  ·rw [if_neg h,if_neg (fun hm=>by
    rcases List.mem_append.1 hm with hm | hm
    ·exact h hm
    ·have:=List.mem_singleton.1 hm;omega)]
 ·rw [zdL,zdL];by_cases e:j=i
  ·rw [if_pos e,if_pos (by subst e;simp)]
  ·rw [if_neg e];by_cases h : -(j:Int)∈T
   ·rw [if_pos h,if_pos (List.mem_append_left _ h)]
   ·rw [if_neg h,if_neg (fun hm=>by
     rcases List.mem_append.1 hm with hm | hm
     ·exact h hm
     ·have:=List.mem_singleton.1 hm;omega)]
theorem zgz (w:World) (g:Nat) (N:Nt) (A Al Ah:Option Addr) (c cl ch n V:Nat) (x2 x3 tv:Value) (T:List Int) (u:Int) (X Y:List Nat) (h:RsAt w g N A c x2 x3 tv T u) (hn128:n≤128) (hT:∀ l∈T,1≤l.natAbs∧l.natAbs≤n) (hTl:T.length≤1000000)
  (hL:Rd w w.heap.size Al (n+1) (zS X)) (hH:Rd w w.heap.size Ah (n+1) (zS Y))
  (hsm:∀ W Bl Bh dl dh,Below w.heap.size w W→Rd W W.heap.size Bl (n+1) (zS (zL T X))→Rd W W.heap.size Bh (n+1) (zS (zH T Y))→Calls Tryz.prog 142 #[ql N A c,.slice Bl (n+1) dl,.slice Bh (n+1) dh] W fun e w'=>e = .returned (.string (zj V))∧Below W.heap.size W w') :
  Calls Tryz.prog 99 #[.pointer (some ⟨g,0,none⟩),.slice Al (n+1) cl,.slice Ah (n+1) ch] w fun e w'=>e = .returned (.string (zj V))∧Below w.heap.size w w':=by
 obtain ⟨i0,hi0,hz0,hz1,hz2⟩:=info_parts zd1;obtain ⟨B,hgB,hBw,hown⟩:=h.tr;obtain ⟨At,ct,rfl,hrd,hsh⟩:=zcw hown;have hlt:=h.row.lt;have hrow:=h.row;obtain ⟨ba,oa,rfl,hba,hca⟩:=hL (by omega);obtain ⟨bh,oh,rfl,hbh,hch⟩:=hH (by omega);have hX0:∀ j,(zL [] X).getD j 0=X.getD j 0:=fun j=>by rw [zdK,if_neg (by simp)]
 have hY0:∀ j,(zH [] Y).getD j 0=Y.getD j 0:=fun j=>by rw [zdL,if_neg (by simp)]
 have hst:=fun (k:Nat) (hk:k<T.length)=>(List.take_succ_eq_append_getElem hk:T.take (k+1)=T.take k++[T[k]]);have hfull:T.take T.length=T:=List.take_length;have hTk:=fun (k:Nat) (hk:k<T.length)=>hT T[k] (List.getElem_mem hk);have hgt:=fun (k:Nat) (hk:k<T.length)=>(show T.getD k 0=T[k] by rw [List.getD_eq_getElem?_getD,List.getElem?_eq_getElem hk];rfl);have hcA:∀ i,i<n+1→w.cell? ⟨ba,oa+i,none⟩=some (zS X i):=hca;have hcB:∀ W,Below w.heap.size w W→∀ i,i<n+1→W.cell? ⟨bh,oh+i,none⟩=some (zS Y i):=fun W hb i hi=>(hb.cell (p:=⟨bh,oh+i,none⟩) hbh).trans (hch i hi);have HSM:=za hsm;have HRW:=za hrow;have HRD:=za hrd;have HX0:=za hX0;have HY0:=za hY0;have HST:=za hst;have HFU:=za hfull;have HTK:=za hTk;have HGT:=za hgt;have HCA:=za hcA;have HCB:=za hcB;have own1:(w.alloc (.cells #[] 9)).ownsRow w.heap.size 9 1 (.slice (some ⟨w.heap.size,0,none⟩) 0 0) 0 []:=zbO (f:=zE #[]) (zU w #[] 9 w.heap.size 0 rfl rfl) (zi _) (Nat.zero_le _);have hB1:Below w.heap.size w (w.alloc (.cells #[] 9)):=(zA _ _).alloc (zi _) _;have hk2:n+1≤maxLen:=Nat.le_trans (Nat.succ_le_succ hn128) (by decide);have dA:=zgJ (W:=w.alloc (.cells #[] 9)) (b:=ba) (o:=oa) (m:=n+1) (B:=0) (X:=X) (fun i hi=>(hB1.cell (p:=⟨ba,oa+i,none⟩) hba).trans (hcA i hi));clear hsm hrow hrd hX0 hY0 hst hfull hTk hgt hcA hcB hca hch hL hH hT h hown;go_enter Tryz.func99, Tryz.ntmps99;go_wp2_with (first
  | (at_builtin
     refine wpList_append_own _ rfl _ _ 27 rfl w.heap.size 9 i0 (.string ⟨#[]⟩) 1 16 Tryz.underlying27 hi0 hz0 hz1 hz2 rfl (by decide) _ _ _ rfl own1 ⟨ba,oa,none⟩ (n+1) cl ((List.range (n+1)).map (zS X)) rfl (by simp) dA zk2 (by omega) (by omega) (by simp) ?_;intro v3 w3 hown3 hgr3 _;have hb3:Below w.heap.size w w3:=hB1.grown hgr3 (by simp) (fun k e=>by
      have e2:w.heap.size=k:=by injection e
      omega)
     rw [Nat.zero_add,List.nil_append] at hown3;obtain ⟨g1,c1,rfl,hg1,hs3⟩:=zfE hown3;have own5:(w3.alloc (.cells #[] 9)).ownsRow w3.heap.size 9 1 (.slice (some ⟨w3.heap.size,0,none⟩) 0 0) 0 []:=zbO (f:=zE #[]) (zU w3 #[] 9 w3.heap.size 0 rfl rfl) (zi _) (Nat.zero_le _);have hB5:Below w3.heap.size w3 (w3.alloc (.cells #[] 9)):=(zA _ _).alloc (zi _) _;have dB:=zgJ (W:=w3.alloc (.cells #[] 9)) (b:=bh) (o:=oh) (m:=n+1) (B:=0) (X:=Y) (fun i hi=>HCB.out _ (zu hb3 hB5 hb3.size) i hi);clear hown3 hgr3 own1 hB1 dA)
  | (at_builtin
     refine wpList_append_own _ rfl _ _ 27 rfl w3.heap.size 9 i0 (.string ⟨#[]⟩) 1 16 Tryz.underlying27 hi0 hz0 hz1 hz2 rfl (by decide) _ _ _ rfl own5 ⟨bh,oh,none⟩ (n+1) ch ((List.range (n+1)).map (zS Y)) rfl (by simp) dB zk2 (by omega) (by omega) (by simp) ?_;intro v5 w5 hown5 hgr5 _;have hb5:Below w3.heap.size w3 w5:=hB5.grown hgr5 (by simp) (fun k e=>by
      have e2:w3.heap.size=k:=by injection e
      omega)
     rw [Nat.zero_add,List.nil_append] at hown5;obtain ⟨g2,c2,rfl,hg2,hs5⟩:=zfE hown5;have lg1:=hs3.lt;replace hs3:=hs3.below hb5;have HB5:=za (zu hb3 hb5 hb3.size);have hz3:=hb3.size;clear hown5 hgr5 own5 hB5 dB hb3 hb5))
 have q0:SmAt w n g1 c1 g2 c2 (zL (T.take 0) X) (zH (T.take 0) Y) w5:=by
  rw [List.take_zero];obtain ⟨F1,a1,a2,a3⟩:=hs3;obtain ⟨F2,b1,b2,b3⟩:=hs5;exact ⟨HB5.out,⟨F1,a1,a2,fun i hi=>by rw [a3 i hi];unfold zS;rw [HX0.out]⟩,⟨F2,b1,b2,fun i hi=>by rw [b3 i hi];unfold zS;rw [HY0.out]⟩,hg1,by omega,by omega⟩
 have Q0:=za q0;clear q0 hs3 hs5 lg1 hg1 hg2 hz3;go_loopw [9] (fun t wr=>∃ k:Nat,k≤T.length∧t = .int .i64 (k:Int)∧SmAt w n g1 c1 g2 c2 (zL (T.take k) X) (zH (T.take k) Y) wr) (fun t _=>T.length-(intOf t).toNat)
 case atStart=>exact ⟨0,Nat.zero_le _,rfl,Q0.out⟩
 case round =>
  clear Q0;obtain ⟨k,hk,rfl,q⟩:=hrel;have m4:wr.cell? ⟨g,4,none⟩=some (.slice At T.length ct):=(q.bl.cell (p:=⟨g,4,none⟩) hlt).trans (HRW.out.cell (i:=4) (by decide));by_cases hlt2:k<T.length
  ·obtain ⟨bT,oT,rfl,hbT,hcT⟩:=HRD.out (by omega);have cT0:=(q.bl.cell (p:=⟨bT,oT+k,none⟩) hbT).trans (hcT k hlt2);have hxk:=HTK.out k hlt2;have hst:=HST.out k hlt2;have hgk:=HGT.out k hlt2;obtain ⟨x,hx⟩:∃ x,T[k]=x:=⟨_,rfl⟩;rw [hx] at hxk hst hgk;have cT:wr.cell? ⟨bT,oT+k,none⟩=some (.int .i64 x):=by rw [cT0];unfold zJ;rw [hgk]
   have HS:=za hst;have i1:(0:Int)≤(k:Int):=by omega
   have i2:(k:Int)<(T.length:Int):=by omega
   clear cT0 hcT hst hgk hx hk;rcases Int.lt_or_le 0 x with hp | hp
   ·obtain ⟨i,rfl⟩:∃ i:Nat,x=(i:Int):=⟨x.toNat,by omega⟩;have hi1:1≤i:=by omega
    have hin:i<n+1:=by omega
    have c1':=q.a.cell i hin;have f1':=q.a.frozen i;have i3:(0:Int)≤(i:Int):=by omega
    have i4:(i:Int)<(n:Int)+1:=by omega
    have Q:=za q;have hz:=z_pos (T:=T.take k) (X:=X) (Y:=Y) hi1;have HZ:=za hz;clear q hxk hz;go_wp2_with fail
    go_roundw
    case rel=>exact ⟨k+1,hlt2,by go_num,by rw [HS.out];exact Q.out.putA i (fun j _=>HZ.out.1 j) (fun j _=>HZ.out.2 j)⟩
    case measure=>simp [intOf];omega
   ·obtain ⟨i,rfl⟩:∃ i:Nat,x = -(i:Int):=⟨x.natAbs,by omega⟩;have hi1:1≤i:=by omega
    have hin:i<n+1:=by omega
    have c1':=q.b.cell i hin;have f1':=q.b.frozen i;have i3:(0:Int)≤(i:Int):=by omega
    have i4:(i:Int)<(n:Int)+1:=by omega
    have i5:¬ (0:Int) < -(i:Int):=by omega
    have w1:IntKind.i64.wrap (- -(i:Int))=(i:Int):=by rw [IntKind.wrap_i64];omega
    have w2:IntKind.i64.wrap (i:Int)=(i:Int):=by rw [IntKind.wrap_i64];omega
    have Q:=za q;have hz:=z_neg (T:=T.take k) (X:=X) (Y:=Y) hi1;have HZ:=za hz;clear q hxk hz hp;go_wp2_with fail
    go_roundw
    case rel=>exact ⟨k+1,hlt2,by go_num,by rw [HS.out];exact Q.out.putB i (fun j _=>HZ.out.1 j) (fun j _=>HZ.out.2 j)⟩
    case measure=>simp [intOf];omega
  ·obtain rfl:k=T.length:=by omega
   have m0:wr.cell? ⟨g,0,none⟩=some (.int .i64 N.n):=(q.bl.cell (p:=⟨g,0,none⟩) hlt).trans (HRW.out.cell (i:=0) (by decide));have m1:wr.cell? ⟨g,1,none⟩=some (.slice A N.l.length c):=(q.bl.cell (p:=⟨g,1,none⟩) hlt).trans (HRW.out.cell (i:=1) (by decide));rw [HFU.out] at q;have hcl:=HSM.out wr _ _ c1 c2 q.bl q.a.rd q.b.rd;have HCL:=za hcl;have HQ:=za q.bl;clear hcl q;obtain ⟨m,ll⟩:=N;go_wp2_with (go_at_call 142;(with_reducible refine HCL.out.mono ?_);rintro e w9 ⟨rfl,hb9⟩)
   all_goals
    go_ret;exact ⟨rfl,zu HQ.out hb9 HQ.out.size⟩
end Go.Proofs.YtoljkoifgnmbgaaGreatDoor
