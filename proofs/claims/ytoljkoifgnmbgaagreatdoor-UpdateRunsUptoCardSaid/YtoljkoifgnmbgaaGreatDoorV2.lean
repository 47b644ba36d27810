import Derived.Test.YtoljkoifgnmbgaaGreatDoorVs
import Derived.Test.YtoljkoifgnmbgaaGreatDoorVt
import Derived.Test.YtoljkoifgnmbgaaGreatDoorQ2
import Derived.Test.YtoljkoifgnmbgaaGreatDoorN1
import Derived.Test.YtoljkoifgnmbgaaGreatDoorV1
set_option linter.unusedSimpArgs false
set_option linter.unusedVariables false
section
open Go Go.RowKit Cs
namespace Cs
theorem n8_one {V:Nat} (h:V≤2):n8 V≤100000:=Nat.le_trans (zkp V 2 1 (by omega) (by omega)) (by omega)
theorem n8_r {V:Nat} (h:V<zM*2^200):n8 V≤100000:=Nat.le_trans (n8_big V h) (by omega)
theorem n8_s {V:Nat} (h:V<zM):n8 V≤100000:=Nat.le_trans (zdx V h) (by omega)
theorem zgP {n:Nat} {lo hi:List Nat} (h1:∀ k,lo.getD k 0≤1) (h2:∀ k,hi.getD k 0≤1) (u:Int):(RL n lo hi).both u≤2:=by
 have a:=zfI (n:=n) h1 h2 u;have b:=zfI (n:=n) h1 h2 (-u);show qZ n lo hi (-u)+qZ n lo hi u≤2;omega
theorem zhG {α:Type} (R:Rg α) (N:Nt):(R.all (own N.l) N.l).length=N.l.length:=by unfold Rg.all;rw [zbS];simp
theorem zfe {α:Type} {a b:List α} (z:α) (hl:a.length=b.length) (h:∀ j,j<a.length→a.getD j z=b.getD j z):a=b:=by
 refine List.ext_getElem? fun j=>?_;by_cases hj:j<a.length
 ·have:=h j hj;rw [List.getD_eq_getElem?_getD,List.getD_eq_getElem?_getD,List.getElem?_eq_getElem hj,List.getElem?_eq_getElem (by omega)] at this;rw [List.getElem?_eq_getElem hj,List.getElem?_eq_getElem (by omega)];exact congrArg some this
 ·rw [List.getElem?_eq_none (by omega),List.getElem?_eq_none (by omega)]
def qU (sel:Nat→Bool):Nat→Nat
 | 0=>0
 | k+1=>qU sel k+if sel k=true then 1 else 0
theorem zhc (sel:Nat→Bool):∀ k,qU sel k≤k
 | 0=>zi _
 | k+1=>by
   have:=zhc sel k;show qU sel k+(if sel k=true then 1 else 0)≤k+1;split <;> omega
def qY (N:Nt) (v:Nat):Nat:=qU (fun j=>((own N.l).getD j 0).testBit (v-1)) N.l.length
end Cs
namespace Go.Proofs.YtoljkoifgnmbgaaGreatDoor
section
variable {w:World} {D E:Nat} {g:Sg} {N:Nt} {n:Nat} {lo hi:List Pr} {tv:Value} {T:List Int} {k:Int} {C1 C2 C3:List Nat} {P1 P2 P3:List Pr}
theorem zkm (h:SsAt w D E g N n lo hi tv T k C1 C2 C3 P1 P2 P3) (hT:Tab w) (hv:zC N=true) (hs:qQ N=true) (hn:N.n=(n:Int)) (h1:∀ k,C1.getD k 0≤1) (h2:∀ k,C2.getD k 0≤1) (i:Nat) (hi:i<N.l.length)
  (hp:∀ j,j<i→C3.getD j 0=((RL n C1 C2).all (own N.l) N.l).getD j 0) (hx:∀ j,n8 (C3.getD j 0)≤100000) (V:Nat) (hV:V=((RL n C1 C2).all (own N.l) N.l).getD i 0) :
  Calls Tryz.prog 95 #[.pointer (some ⟨g.b,5,none⟩),ql N g.A g.cA,.slice g.O N.l.length g.cO,.int .i64 (i:Int)] w fun e w'=>e = .returned (zD V)∧Below w.heap.size w w':=by
 have hq:∀ j,j<i→C3.getD j 0=(scan ((RL n C1 C2).step (own N.l)) [] (N.l.take i)).getD j 0:=fun j hj=>(hp j hj).trans (zds _ 0 N.l i j (Nat.le_of_lt hi) hj).symm;have e:=pu w N g.A (some ⟨g.bl,0,none⟩) (some ⟨g.bh,0,none⟩) (some ⟨g.bL,0,none⟩) g.O g.b g.cA g.cl g.ch g.cL g.cO n i C1 C2 C3 (scan ((RL n C1 C2).step (own N.l)) [] (N.l.take i)) hT h.lt
  (h.cell 5 (by decide) _ rfl) (h.cell 6 (by decide) _ rfl) (h.cell 7 (by decide) _ rfl) (h.cell 8 (by decide) _ rfl) (h.cell 9 (by decide) _ rfl) (h.cell 10 (by decide) _ rfl)
  (h.c1.rd h.ok.hcl) (h.c2.rd h.ok.hch) (h.c3.rd h.ok.hcL) h.ro.now.2.1 h.ro.now.1 hv hn hi (q7 _ _ _ (Nat.le_of_lt hi)) hq
  (fun m=>n8_s (RL_part h1 h2 hs i hi m)) hx
  (fun j hj _ m=>by
    rw [hp j hj];exact n8_r (zjC h1 h2 _ (zgQ h1 h2 hs j) _ (by rw [List.length_take];have:=zbe (zI ((own N.l).getD i 0) ((own N.l).getD j 0));omega)))
  (fun v _=>⟨n8_one (Nat.le_trans (h1 v) (by omega)),n8_one (Nat.le_trans (h2 v) (by omega))⟩) (fun u=>n8_one (zgP h1 h2 u))
 rw [hV];have e2:((RL n C1 C2).all (own N.l) N.l).getD i 0=(RL n C1 C2).step (own N.l) (scan ((RL n C1 C2).step (own N.l)) [] (N.l.take i)) N.l[i]:=zdQ _ 0 N.l i hi;rw [e2];exact e
theorem zjX (h:SsAt w D E g N n lo hi tv T k C1 C2 C3 P1 P2 P3) (hT:Tab w) (hv:zC N=true) (hd:qv N=true) (hs:qQ N=true) (hn:N.n=(n:Int)) (hW:WtOk n P1 P2) (h1:∀ k,Sp (P1.getD k (0,0))) (h2:∀ k,Sp (P2.getD k (0,0))) (i:Nat) (hi:i<N.l.length)
  (hp:∀ j,j<i→P3.getD j (0,0)=((RP n P1 P2).all (own N.l) N.l).getD j (0,0)) (hx:∀ j,Sp (P3.getD j (0,0))) (V:Pr) (hV:V=((RP n P1 P2).all (own N.l) N.l).getD i (0,0)) :
  Calls Tryz.prog 96 #[.pointer (some ⟨g.b,11,none⟩),ql N g.A g.cA,.slice g.O N.l.length g.cO,.int .i64 (i:Int)] w fun e w'=>e = .returned (zZ V.1 V.2)∧Below w.heap.size w w':=by
 have hq:∀ j,j<i→P3.getD j (0,0)=(scan ((RP n P1 P2).step (own N.l)) [] (N.l.take i)).getD j (0,0):=fun j hj=>(hp j hj).trans (zds _ (0,0) N.l i j (Nat.le_of_lt hi) hj).symm;have e:=x8 w N g.A (some ⟨g.pl,0,none⟩) (some ⟨g.ph,0,none⟩) (some ⟨g.pL,0,none⟩) g.O g.b g.cA g.dl g.dh g.dL g.cO n i P1 P2 P3 (scan ((RP n P1 P2).step (own N.l)) [] (N.l.take i)) hT h.lt
  (h.cell 11 (by decide) _ rfl) (h.cell 12 (by decide) _ rfl) (h.cell 13 (by decide) _ rfl) (h.cell 14 (by decide) _ rfl) (h.cell 15 (by decide) _ rfl) (h.cell 16 (by decide) _ rfl) (h.cell 17 (by decide) _ rfl)
  (h.p1.rd (Nat.mul_le_mul_right 2 h.ok.hdl)) (h.p2.rd (Nat.mul_le_mul_right 2 h.ok.hdh)) (h.p3.rd (Nat.mul_le_mul_right 2 h.ok.hdL)) h.ro.now.2.1 h.ro.now.1 hv hn hi (q7 _ _ _ (Nat.le_of_lt hi)) hq
  (fun m=>p_part hW hv hd hs hn i hi m) hx
  (fun j hj hm m=>by
    rw [hp j hj,show (RP n P1 P2).all (own N.l) N.l=scan ((RP n P1 P2).step (own N.l)) [] N.l from rfl,← zds ((RP n P1 P2).step (own N.l)) (0,0) N.l i j (Nat.le_of_lt hi) hj];exact j7 hW hv hd hs hn i (Nat.le_of_lt hi) j hj _ (fun x hxb=>zdF hv i hi (j:Int) hm x hxb) m)
  (fun v _=>⟨h1 v,h2 v⟩) (fun u=>p_both hW u)
 rw [hV];have e2:((RP n P1 P2).all (own N.l) N.l).getD i (0,0)=(RP n P1 P2).step (own N.l) (scan ((RP n P1 P2).step (own N.l)) [] (N.l.take i)) N.l[i]:=zdQ _ (0,0) N.l i hi;rw [e2];exact e
theorem po (h:SsAt w D E g N n lo hi tv T k C1 C2 C3 P1 P2 P3) (hT:Tab w) (hv:zC N=true) (hs:qQ N=true) (hn:N.n=(n:Int)) (h1:∀ k,C1.getD k 0≤1) (h2:∀ k,C2.getD k 0≤1)
  (h3:C3=(RL n C1 C2).all (own N.l) N.l) (V:Nat) (hV:V=(RL n C1 C2).sum N) :
  Calls Tryz.prog 66 #[.pointer (some ⟨g.b,5,none⟩),ql N g.A g.cA,.slice g.O N.l.length g.cO] w fun e w'=>e = .returned (zD V)∧Below w.heap.size w w' :=
 zlq w N g.A (some ⟨g.bl,0,none⟩) (some ⟨g.bh,0,none⟩) (some ⟨g.bL,0,none⟩) g.O g.b g.cA g.cl g.ch g.cL g.cO n C1 C2 C3 hT h.lt
  (h.cell 6 (by decide) _ rfl) (h.cell 7 (by decide) _ rfl) (h.cell 8 (by decide) _ rfl) (h.cell 9 (by decide) _ rfl) (h.cell 10 (by decide) _ rfl)
  (h.c1.rd h.ok.hcl) (h.c2.rd h.ok.hch) (h.c3.rd h.ok.hcL) h.ro.now.2.1 hv hn
  (fun m=>by
    rw [h3];exact n8_r (zjC h1 h2 _ (zgQ h1 h2 hs _) _ (by rw [List.length_take];have:=zbe (zI (qs N.n) ((own N.l).getD (N.l.length-1) 0));omega)))
  (fun v _=>⟨n8_one (Nat.le_trans (h1 v) (by omega)),n8_one (Nat.le_trans (h2 v) (by omega))⟩) (fun u=>n8_one (zgP h1 h2 u)) V (by rw [hV,h3];rfl)
theorem x5 (h:SsAt w D E g N n lo hi tv T k C1 C2 C3 P1 P2 P3) (hT:Tab w) (hv:zC N=true) (hd:qv N=true) (hs:qQ N=true) (hn:N.n=(n:Int)) (hW:WtOk n P1 P2) (h1:∀ k,Sp (P1.getD k (0,0))) (h2:∀ k,Sp (P2.getD k (0,0)))
  (h3:P3=(RP n P1 P2).all (own N.l) N.l) (V:Pr) (hV:V=(RP n P1 P2).sum N) :
  Calls Tryz.prog 67 #[.pointer (some ⟨g.b,11,none⟩),ql N g.A g.cA,.slice g.O N.l.length g.cO] w fun e w'=>e = .returned (zZ V.1 V.2)∧Below w.heap.size w w':=by
 obtain ⟨hn0,hn1,hl0,hl1⟩:=qD hv;exact zlm w N g.A (some ⟨g.pl,0,none⟩) (some ⟨g.ph,0,none⟩) (some ⟨g.pL,0,none⟩) g.O g.b g.cA g.dl g.dh g.dL g.cO n P1 P2 P3 hT h.lt
  (h.cell 13 (by decide) _ rfl) (h.cell 14 (by decide) _ rfl) (h.cell 15 (by decide) _ rfl) (h.cell 16 (by decide) _ rfl) (h.cell 17 (by decide) _ rfl)
  (h.p1.rd (Nat.mul_le_mul_right 2 h.ok.hdl)) (h.p2.rd (Nat.mul_le_mul_right 2 h.ok.hdh)) (h.p3.rd (Nat.mul_le_mul_right 2 h.ok.hdL)) h.ro.now.2.1 hv hn
  (fun m=>by
    have e:(RP n P1 P2).all (own N.l) N.l=scan ((RP n P1 P2).step (own N.l)) [] (N.l.take N.l.length):=by rw [List.take_length];rfl
    rw [h3,e];exact j7 hW hv hd hs hn N.l.length (zi _) _ (by omega) _ (fun x hx=>by
     have:=zcn hv N.l.length (N.l.length-1) (by omega) (by omega) x hx;rw [zbm];exact decide_eq_true (by omega)) m)
  (fun v _=>⟨h1 v,h2 v⟩) (fun u=>p_both hW u) V (by rw [hV,h3];rfl)
end
end Go.Proofs.YtoljkoifgnmbgaaGreatDoor
end
section
section
open Go Go.RowKit Cs
namespace Cs
def key (s:Nat):Nat:=sN (fun i=>if s.testBit i then 2^(127-i) else 0) 128
end Cs
end
end
section
open Go Go.RowKit Cs
namespace Cs
def pf1 (m x:Nat):Nat:=(x / 2 &&& m)+(x &&& m)
def pf2 (m x:Nat):Nat:=(x / 4 &&& m)+(x &&& m)
def pf3 (m x:Nat):Nat:=(x / 16+x) &&& m
def g1 (b:Nat):Nat:=pf1 85 b
def g2 (b:Nat):Nat:=pf2 51 b
def g3 (b:Nat):Nat:=pf3 15 b
def pb:Nat→Nat→Nat
 | 0,_=>0
 | k+1,x=>pcn 8 (x%256)+256*pb k (x / 256)
end Cs
end
section
set_option maxRecDepth 100000
set_option maxHeartbeats 1000000
open Go Go.RowKit Cs
namespace Cs
theorem oE (s:Nat) (v:Int) (h1:1≤v) (h2:v≤128):pH s v=s.testBit (v.toNat-1):=by unfold pH;rw [decide_eq_true ⟨h1,h2⟩,Bool.true_and]
theorem zgN (x i:Nat):(((x &&& 2^i:Nat):Int) != 0)=x.testBit i:=by
 rw [nat_bit];have e:=Nat.testBit_eq_decide_div_mod_eq (x:=x) (i:=i);rw [e];have hp:=Nat.two_pow_pos i;rcases Nat.mod_two_eq_zero_or_one (x / 2^i) with h | h
 ·rw [h];simp
 ·have h2:(((2^i:Nat):Int) != 0)=true:=bne_iff_ne.2 (by omega);rw [h,Nat.one_mul,h2];simp
end Cs
namespace Go.Proofs.YtoljkoifgnmbgaaGreatDoor
open Go.Shelf
theorem has_any (w:World) (s:Nat) (v:Int):Calls Tryz.prog 106 #[zY s,.int .i64 v] w fun e w'=>e = .returned (.bool (pH s v))∧Below w.heap.size w w':=by
 have hbl:Below w.heap.size w (w.alloc (.cells #[.int .u64 (lo s:Int),.int .u64 (hi s:Int)] 138)):=(zA _ _).alloc (zi _) _;by_cases hv:1≤v∧v≤128
 ·obtain ⟨hv1,hv2⟩:=hv;have hh:=oE s v hv1 hv2;by_cases h64:v≤64
  ·have h1:=u64_and_nat (lo s) (lo (2^(v.toNat-1))) (y8 _) (y8 _);have h2:lo (2^(v.toNat-1))=2^(v.toNat-1):=by rw [zfM,if_pos (by omega)]
   have h3:=zgN (lo s) (v.toNat-1);rw [xo,decide_eq_true (by omega),Bool.true_and,← hh,← h2] at h3;have H3:=za h3;clear h2 h3 hh;go_enter Tryz.func106, Tryz.ntmps106;go_wp2_with (go_at_call 149;refine (zkg _ v hv1 h64).mono ?_;rintro e w' ⟨rfl,rfl⟩)
   go_ret;exact ⟨congrArg (fun b=>Ending.returned (.bool b)) H3.out,hbl⟩
  ·have h1:=u64_and_nat (hi s) (hi (2^(v.toNat-1))) (y7 _) (y7 _);have h2:hi (2^(v.toNat-1))=2^(v.toNat-1-64):=by rw [zfO _ (by omega),if_neg (by omega)]
   have h3:=zgN (hi s) (v.toNat-1-64);rw [xr,decide_eq_true (by omega),Bool.true_and,show v.toNat-1-64+64=v.toNat-1 by omega,← hh,← h2] at h3;have H3:=za h3;clear h2 h3 hh;go_enter Tryz.func106, Tryz.ntmps106;go_wp2_with (go_at_call 149;refine (zkh _ v (by omega) hv2).mono ?_;rintro e w' ⟨rfl,rfl⟩)
   go_ret;exact ⟨congrArg (fun b=>Ending.returned (.bool b)) H3.out,hbl⟩
 ·have hh:pH s v=false:=by unfold pH;rw [decide_eq_false hv];rfl
  rw [hh];clear hh;go_enter Tryz.func106, Tryz.ntmps106;go_wp2_with (go_at_call 149;refine (zkf _ v (by omega)).mono ?_;rintro e w' ⟨rfl,rfl⟩)
  go_ret;exact ⟨rfl,hbl⟩
end Go.Proofs.YtoljkoifgnmbgaaGreatDoor
end
