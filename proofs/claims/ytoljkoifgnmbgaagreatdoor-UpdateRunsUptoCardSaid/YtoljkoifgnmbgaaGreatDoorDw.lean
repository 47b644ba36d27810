import Derived.Test.YtoljkoifgnmbgaaGreatDoorDs
import Derived.Test.YtoljkoifgnmbgaaGreatDoorDl
import Derived.WalkMore
import Derived.Deep.CutBlock
import Derived.Deep.CutRange
import Derived.Test.YtoljkoifgnmbgaaGreatDoorDt
import Derived.Test.YtoljkoifgnmbgaaGreatDoorQ2
import Derived.Lib.SliceRun
import Derived.BigRegion
set_option linter.unusedSimpArgs false
set_option linter.unusedVariables false
section

end
section
section
open Go Go.RowKit Cs
namespace Cs
def zr (L:List Pr) (v:Nat):List Pr:=L.set v (0,0)
theorem S0_zero:S0 (0,0):=by constructor <;> (show n8 0≤_;rw [ja];omega)
def totN (N:Nt) (n:Nat) (lo hi:List Pr):Nat:=((RP n lo hi).sum N).1
structure Ch where
 r:Nat
 lo:List Pr
 hi:List Pr
 a:Nat
def Ch.step (N:Nt) (n:Nat) (s:Ch) (v:Nat):Ch :=
 if totN N n s.lo (zr s.hi v)≤s.r then ⟨s.r-totN N n s.lo (zr s.hi v),zr s.lo v,s.hi,s.a ||| 2^(v-1)⟩ else ⟨s.r,s.lo,zr s.hi v,s.a⟩
def Ch.run (N:Nt) (n:Nat) (s:Ch):Nat→Ch
 | 0=>s
 | m+1=>(Ch.run N n s m).step N n (m+1)
end Cs
end
section
open Go Go.RowKit Cs
namespace Cs
section
variable {α:Type} (R:Rg α) (lit' both':Int→α)
def Rg.re:Rg α:=⟨R.zero,R.one,R.add,R.mul,lit',both'⟩
variable {R lit' both'} {n:Nat}
theorem gB (hb:∀ v:Int,1≤v→v≤(n:Int)→R.both v=both' v):∀ (vs:List Int) (x:α),(∀ v∈vs,1≤v∧v≤(n:Int))→R.wide x vs=(R.re lit' both').wide x vs
 | [],_,_=>rfl
 | v::vs,x,h=>by
   have h1:=h v (List.mem_cons_self ..);show R.wide (R.mul x (R.both v)) vs=(R.re lit' both').wide (R.mul x (both' v)) vs;rw [hb v h1.1 h1.2];exact gB hb vs _ fun u hu=>h u (List.mem_cons_of_mem _ hu)
theorem ge (hb:∀ v:Int,1≤v→v≤(n:Int)→R.both v=both' v) (O:List Nat) (acc:List α) (all k:Nat) (hall:∀ i,all.testBit i=true→(i:Int)<(n:Int)) :
  R.gap O acc all k=(R.re lit' both').gap O acc all k:=by
 refine gB hb _ _ fun v hv=>?_;obtain ⟨i,hi,rfl⟩:=zdN hv;rw [jQ,Bool.and_eq_true] at hi;have:=hall i hi.1;omega
theorem step_re (hb:∀ v:Int,1≤v→v≤(n:Int)→R.both v=both' v) (hl:∀ l:Int,1≤l.natAbs→l.natAbs≤n→R.lit l=lit' l) {N:Nt} (hv:zC N=true) (hn:N.n=(n:Int)) (k:Nat) (hk:k<N.l.length) (acc:List α) (la:acc.length=k) :
  R.step (own N.l) acc N.l[k]=(R.re lit' both').step (own N.l) acc N.l[k]:=by
 have hfm:=yT hv k hk;have hos:=fun i h=>zcn hv (k+1) k (Nat.lt_succ_self k) hk i h;have hst:R.start N.l[k]=(R.re lit' both').start N.l[k]:=by
  unfold Rg.start;by_cases h2:N.l[k].kind=2
  ·rw [if_pos h2,if_pos h2];have h3:=zcz (zbl hfm h2).1;exact hl _ (by omega) (by omega)
  ·rw [if_neg h2,if_neg h2];rfl
 have hin:∀ s j,R.in1 (own N.l) acc N.l[k] s j=(R.re lit' both').in1 (own N.l) acc N.l[k] s j:=fun s j=>by
  unfold Rg.in1;by_cases h3:N.l[k].kind=1∨N.l[k].kind=3
  ·rw [if_pos h3,if_pos h3];rfl
  ·rw [if_neg h3,if_neg h3];show R.add s _=R.add s _;rw [la,ge hb (own N.l) acc ((own N.l).getD k 0) j.toNat fun i h=>by have:=hos i h;omega]
 unfold Rg.step;rw [hst];have e:R.in1 (own N.l) acc N.l[k]=(R.re lit' both').in1 (own N.l) acc N.l[k]:=by funext s j;exact hin s j
 rw [e]
theorem zhd (hb:∀ v:Int,1≤v→v≤(n:Int)→R.both v=both' v) (hl:∀ l:Int,1≤l.natAbs→l.natAbs≤n→R.lit l=lit' l) {N:Nt} (hv:zC N=true) (hn:N.n=(n:Int)) :
  ∀ k,k≤N.l.length→scan (R.step (own N.l)) [] (N.l.take k)=scan ((R.re lit' both').step (own N.l)) [] (N.l.take k)
 | 0,_=>by simp [scan]
 | k+1,hk=>by
   rw [jf _ _ k (by omega),jf _ _ k (by omega),← zhd hb hl hv hn k (by omega),step_re hb hl hv hn k (by omega) _ (q7 _ _ _ (by omega))]
theorem sum_re (hb:∀ v:Int,1≤v→v≤(n:Int)→R.both v=both' v) (hl:∀ l:Int,1≤l.natAbs→l.natAbs≤n→R.lit l=lit' l) {N:Nt} (hv:zC N=true) (hn:N.n=(n:Int)):R.sum N=(R.re lit' both').sum N:=by
 have h:=zhd hb hl hv hn N.l.length (zi _);rw [List.take_length] at h;unfold Rg.sum Rg.all;rw [h];refine ge hb _ _ _ _ fun i hi=>?_;rw [zbm,decide_eq_true_eq] at hi;obtain ⟨h0,h1,_,_⟩:=qD hv;omega
end
end Cs
end
section
open Go Go.RowKit Cs
namespace Cs
def Wh (L:List Pr):Prop:=∀ k,(L.getD k (0,0)).2≤1
theorem qp_wh {p:Pr} (h:p.2≤1):qp p=(p.1:Rat):=by
 have e:qd p.2=1:=by unfold qd;split <;> omega
 unfold qp;rw [← qq_qd,e];exact zg3 _
end Cs
end
end
section
set_option maxRecDepth 100000
set_option maxHeartbeats 1000000
section
open Go Go.RowKit Cs
namespace Cs
theorem zeW {w:World} {n:Nat} {base:Nat} {e:TypeId} {size:Nat} {v:Value} {xs:List Value} (h:w.ownsRow base e size v n xs) (hn:0<n) :
  ∃ g cap f,v = .slice (some ⟨g,0,none⟩) n cap∧base≤g∧g<w.heap.size∧n≤cap∧w.rowIs g e (cap*size) f∧∀ i,i<n*size→xs[i]?=some (f i):=by
 obtain ⟨h1,h2⟩:=h;rcases h2 with ⟨_,h0⟩ | ⟨g,cap,cur,rfl,hb,hg,hc,_,hs,ht⟩
 ·omega
 ·have hlt:g<w.heap.size:=by
   rcases Nat.lt_or_ge g w.heap.size with h' | h'
   ·exact h'
   ·rw [Array.getElem?_eq_none h'] at hg;cases hg
  refine ⟨g,cap,fun i=>cur.getD i undef,rfl,hb,hlt,hc,⟨cur,hg,hs,fun i hi=>?_⟩,fun i hi=>?_⟩
  ·show cur[i]?=some (cur.getD i undef);rw [Array.getD_eq_getD_getElem?,Array.getElem?_eq_getElem (by omega)];rfl
  ·have hle:n*size≤cap*size:=Nat.mul_le_mul_right _ hc;rw [← ht,List.getElem?_take,if_pos hi];show cur.toList[i]?=some (cur.getD i undef);rw [Array.getD_eq_getD_getElem?];rw [Array.getElem?_toList,Array.getElem?_eq_getElem (by omega)];rfl
end Cs
namespace Go.Proofs.YtoljkoifgnmbgaaGreatDoor
def ClnR (w:World) (n:Nat) (f:Nat→Value) (e:Ending) (w':World):Prop:=∃ A c,e = .returned (.slice A n c)∧(0<n→∃ g F,A=some ⟨g,0,none⟩∧w.heap.size≤g∧n≤c∧w'.rowIs g 60 (c*2) F∧∀ i,i<n*2→F i=f i)∧Below w.heap.size w w'
theorem clnR_mk (w:World) (n:Nat) (f:Nat→Value) (v:Value) (w':World) (h:w'.ownsRow w.heap.size 60 2 v n ((List.range (n*2)).map f)) (hn:v = .slice none 0 0→False) (hb:Below w.heap.size w w'):ClnR w n f (.returned v) w':=by
 rcases Nat.eq_zero_or_pos n with h0 | h0
 ·rcases h.2 with ⟨e,_⟩ | ⟨g,cap,cur,e,_⟩
  ·exact (hn e).elim
  ·exact ⟨_,_,by rw [e],fun h'=>absurd h' (by omega),hb⟩
 ·obtain ⟨g,cap,F,rfl,hg,hlt,hc,hr,hf⟩:=zeW h h0;refine ⟨_,_,rfl,fun _=>⟨g,F,rfl,hg,hc,hr,fun i hi=>?_⟩,hb⟩;have:=hf i hi;have e:((List.range (n*2)).map f)[i]?=some (f i):=by simp [hi]
  rw [e] at this;exact (Option.some.inj this).symm
theorem zh7 (w:World) (A:Option Addr) (c:Nat) (n:Nat) (f:Nat→Value) (hlen:n≤1000000000000) (h1:∀ i,i<n*2→(f i).oneCell'=true) (hA:Rd w w.heap.size A (n*2) f) :
  Calls Tryz.prog 44 #[.slice A n c] w (ClnR w n f):=by
 obtain ⟨i0,hi,hz0,hz1,hz2⟩:=info_parts zhz;have q22:∀ (w:World) (a:Option Addr) (n c n' c':Nat),(binOp .eql 28 (.slice a n c) (.slice none n' c')).run Tryz.prog w = .ok (.bool a.isNone) w:=fun w a n c n' c'=>Lib.run_eql_slice_nil w _ _ a n c n' c' Tryz.underlying28;cases A with
 | none =>
   obtain rfl:n=0:=by
    rcases Nat.eq_zero_or_pos n with h | h
    ·exact h
    ·obtain ⟨b,o,e,_⟩:=hA (by omega);cases e
   clear hA hlen h1;go_enter Tryz.func44, Tryz.ntmps44;go_wp2;go_ret;exact ⟨none,0,rfl,fun h=>absurd h (by omega),zA _ _⟩
 | some a =>
   have HA:=za hA;clear hA;go_enter Tryz.func44, Tryz.ntmps44;go_wp2_with (at_builtin;refine wpList_append_own _ rfl _ _ 28 rfl w.heap.size 60 i0 (.agg #[.string ⟨#[]⟩,.string ⟨#[]⟩]) 2 32 Tryz.underlying28 hi hz0 hz1 hz2 rfl (by decide) _ _ _ rfl (World.ownsRow_made w #[] 0 (zi _) (Nat.zero_le _) rfl) a n c ((List.range (n*2)).map f) rfl ?qc1 ?qc2 ?qc3 ?qc4 ?qc5 ?qc6 ?_)
   case qc1=>simp
   case qc2 =>
    intro j u hj;have hjn:j<n*2:=by
     have:=(List.getElem?_eq_some_iff.1 hj).1;simpa using this
    obtain ⟨b,o,e,hB,hc⟩:=HA.out (by omega);obtain rfl:a=⟨b,o,none⟩:=by injection e
    rw [Addr.add_lit];refine Lib.cell?_alloc_some _ ?_;rw [hc j hjn];have e:((List.range (n*2)).map f)[j]?=some (f j):=by simp [hjn]
    rw [e] at hj;exact hj
   case qc3=>intro u hu;obtain ⟨x,hx,rfl⟩:=List.mem_map.1 hu;exact h1 x (by simpa using hx)
   case qc4=>unfold maxLen;omega
   case qc5=>omega
   case qc6=>simp
   intro v' w1 hown hgrow hnil;go_wp2;go_ret;exact clnR_mk w n f v' w1 (by simpa using hown) hnil (((Below.refl _ w).alloc (zi _) _).grown hgrow (by simp) (by intro k hk;simp [Value.ownBlock] at hk;omega))
end Go.Proofs.YtoljkoifgnmbgaaGreatDoor
end
section
open Go Go.RowKit Cs
namespace Cs
def PrR (w:World) (g:Nat) (t:TypeId) (m n:Nat) (L:List Pr):Prop:=∃ F,w.rowIs g t m F∧∀ i,i<n*2→F i=zT L i
theorem PrR.below {w w':World} {g m n:Nat} {t:TypeId} {L:List Pr} (h:PrR w g t m n L) (hb:Below w.heap.size w w'):PrR w' g t m n L:=by
 obtain ⟨F,h1,h2⟩:=h;exact ⟨F,zh h1 hb,h2⟩
theorem PrR.setOther {w:World} {g m n:Nat} {t:TypeId} {L:List Pr} (h:PrR w g t m n L) {a:Addr} (ha:g≠a.block) (v:Value):PrR (w.setCell a v) g t m n L:=by
 obtain ⟨F,h1,h2⟩:=h;exact ⟨F,h1.setOther ha v,h2⟩
theorem PrR.cells {w:World} {g m n:Nat} {t:TypeId} {L:List Pr} (h:PrR w g t m n L) (hm:n*2≤m) (k:Nat) (hk:k<n):w.cell? ⟨g,k*2,none⟩=some (.string (zb (L.getD k (0,0)).1))∧w.cell? ⟨g,k*2+1,none⟩=some (.string (zb (L.getD k (0,0)).2)) ∧
  w.frozen? ⟨g,k*2,none⟩=false∧w.frozen? ⟨g,k*2+1,none⟩=false:=by
 obtain ⟨F,h1,h2⟩:=h;exact ⟨(h1.cell (i:=k*2) (by omega)).trans (by rw [h2 _ (by omega),jB]),(h1.cell (i:=k*2+1) (by omega)).trans (by rw [h2 _ (by omega),jC]),h1.frozen _,h1.frozen _⟩
theorem PrR.set {w:World} {g m n:Nat} {t:TypeId} {L:List Pr} (h:PrR w g t m n L) (p:Pr) (k:Nat) (hk:k<n) (hL:L.length=n) :
  PrR ((w.setCell ⟨g,k*2,none⟩ (.string (zb p.1))).setCell ⟨g,k*2+1,none⟩ (.string (zb p.2))) g t m n (L.set k p):=by
 obtain ⟨F,h1,h2⟩:=h;refine ⟨_,(h1.set _ _).set _ _,fun i hi=>?_⟩;have e:∀ j,(L.set k p).getD j (0,0)=if j=k then p else L.getD j (0,0):=fun j=>by
  rw [List.getD_eq_getElem?_getD,List.getD_eq_getElem?_getD,List.getElem?_set];split
  ·rename_i h1;rw [if_pos h1.symm];subst h1;first | rfl | (rw [if_pos (by omega)];rfl)
  ·rename_i h1;rw [if_neg (fun h=>h1 h.symm)]
 by_cases h3:i=k*2+1
 ·subst h3;rw [if_pos rfl,jC,e,if_pos rfl]
 ·rw [if_neg h3];by_cases h4:i=k*2
  ·subst h4;rw [if_pos rfl,jB,e,if_pos rfl]
  ·rw [if_neg h4,h2 i hi];have h5:¬ i / 2=k:=by omega
   unfold zT;simp only [e,h5,if_false]
theorem PrR.lt {w:World} {g m n:Nat} {t:TypeId} {L:List Pr} (h:PrR w g t m n L):g<w.heap.size:=by obtain ⟨F,h1,h2⟩:=h;exact h1.lt
theorem PrR.rd {w:World} {g m n:Nat} {t:TypeId} {L:List Pr} (h:PrR w g t m n L) (hm:n*2≤m):Rd w w.heap.size (some ⟨g,0,none⟩) (n*2) (zT L):=fun _=>by
 obtain ⟨F,h1,h2⟩:=h;exact ⟨g,0,rfl,h1.lt,fun i hi=>by rw [Nat.zero_add,h1.cell (i:=i) (by omega),h2 i hi]⟩
end Cs
end
end
section
open Go Go.RowKit Cs
namespace Go.Proofs.YtoljkoifgnmbgaaGreatDoor
theorem size_wts:(Tryz.prog.info? 30).map (·.size)=some 2:=by kernel_rfl
end Go.Proofs.YtoljkoifgnmbgaaGreatDoor
end
