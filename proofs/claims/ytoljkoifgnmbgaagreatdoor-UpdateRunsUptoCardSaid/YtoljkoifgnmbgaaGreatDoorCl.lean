import Derived.Test.YtoljkoifgnmbgaaGreatDoorDw
import Derived.Lib.SliceRun
import Derived.Deep.CutRange
set_option linter.unusedSimpArgs false
set_option linter.unusedVariables false
set_option maxRecDepth 100000
set_option maxHeartbeats 1000000
section
open Go Go.RowKit Cs
namespace Cs
def RdK (w:World) (D B:Nat) (A:Option Addr) (n:Nat) (f:Nat→Value):Prop :=
 0<n→∃ b o,A=some ⟨b,o,none⟩∧D≤b∧b<B∧∀ i,i<n→w.cell? ⟨b,o+i,none⟩=some (f i)
section
variable {w w':World} {D B B' b o n:Nat} {x:Nd} {A:Option Addr} {L:List Nd} {f:Nat→Value}
theorem zej {a:Addr} (h:w'.heap[a.block]?=w.heap[a.block]?):w'.cell? a=w.cell? a:=by
 unfold World.cell?;rw [h]
theorem RdK.agree (h:RdK w D B A n f) (hw:∀ b,D≤b→b<B→w'.heap[b]?=w.heap[b]?):RdK w' D B A n f:=fun hn=>by
 obtain ⟨b,o,e,hD,hB,hc⟩:=h hn;exact ⟨b,o,e,hD,hB,fun i hi=>(zej (hw b hD hB)).trans (hc i hi)⟩
theorem RdK.more (h:RdK w D B A n f) (hB:B≤B'):RdK w D B' A n f:=fun hn=>by
 obtain ⟨b,o,e,hD,hb,hc⟩:=h hn;exact ⟨b,o,e,hD,by omega,hc⟩
theorem RdK.rd (h:RdK w D B A n f):Rd w B A n f:=fun hn=>by
 obtain ⟨b,o,e,hD,hb,hc⟩:=h hn;exact ⟨b,o,e,hb,hc⟩
theorem RdK.below (h:RdK w D B A n f) (hb:Below B w w'):RdK w' D B A n f:=h.agree fun b _ hB=>hb.block b hB
theorem zfC {base:Nat} {e:TypeId} {size:Nat} {v:Value} {xs:List Value} (h:w.ownsRow base e size v n xs) (hn:0<n) :
  ∃ g cap f,v = .slice (some ⟨g,0,none⟩) n cap∧base≤g∧g<w.heap.size∧n≤cap∧w.rowIs g e (cap*size) f∧∀ i,i<n*size→xs[i]?=some (f i):=by
 obtain ⟨h1,h2⟩:=h;rcases h2 with ⟨_,h0⟩ | ⟨g,cap,cur,rfl,hb,hg,hc,_,hs,ht⟩
 ·omega
 ·have hlt:g<w.heap.size:=by
   rcases Nat.lt_or_ge g w.heap.size with h' | h'
   ·exact h'
   ·rw [Array.getElem?_eq_none h'] at hg;cases hg
  refine ⟨g,cap,fun i=>cur.getD i undef,rfl,hb,hlt,hc,⟨cur,hg,hs,fun i hi=>?_⟩,fun i hi=>?_⟩
  ·show cur[i]?=some (cur.getD i undef);rw [Array.getD_eq_getD_getElem?,Array.getElem?_eq_getElem (by omega)];rfl
  ·have hle:n*size≤cap*size:=Nat.mul_le_mul_right _ hc;rw [← ht,List.getElem?_take,if_pos hi];show cur.toList[i]?=some (cur.getD i undef);rw [Array.getD_eq_getD_getElem?];rw [Array.getElem?_toList,Array.getElem?_eq_getElem (by omega)];rfl
end
end Cs
namespace Go.Proofs.YtoljkoifgnmbgaaGreatDoor
theorem pE:(Tryz.prog.info? 76).map (fun i=>(i.zero,i.size,i.bytes))=some (some (.agg #[.int .i64 0,.int .i64 0,.slice none 0 0]),3,40):=by kernel_rfl
theorem zi6:(Tryz.prog.info? 3).map (fun i=>(i.zero,i.size,i.bytes))=some (some (.int .i64 0),1,8):=by kernel_rfl
def ClnI (w:World) (xs:List Int) (e:Ending) (w':World):Prop:=∃ A c,e = .returned (.slice A xs.length c)∧RdK w' w.heap.size w'.heap.size A xs.length (zJ xs)∧Below w.heap.size w w'
def ClnJ (w:World) (xs:List Int) (e:Ending) (w':World):Prop:=ClnI w xs e w'∧(0<xs.length→∃ g cap f c,e = .returned (.slice (some ⟨g,0,none⟩) xs.length c)∧w.heap.size≤g∧w'.rowIs g 3 cap f∧xs.length≤cap)
def ClnN (w:World) (n:Nat) (f:Nat→Value) (e:Ending) (w':World):Prop:=∃ A c,e = .returned (.slice A n c)∧(0<n→∃ g F,A=some ⟨g,0,none⟩∧w.heap.size≤g∧n≤c∧w'.rowIs g 76 (c*3) F∧∀ i,i<n*3→F i=f i)∧Below w.heap.size w w'
theorem clnI_mk (w:World) (xs:List Int) (v:Value) (w':World) (h:w'.ownsRow w.heap.size 3 1 v xs.length (xs.map (Value.int .i64))) (hn:v = .slice none 0 0→False) (hb:Below w.heap.size w w'):ClnI w xs (.returned v) w':=by
 rcases Nat.eq_zero_or_pos xs.length with h0 | h0
 ·rcases h.2 with ⟨e,_⟩ | ⟨g,cap,cur,e,_⟩
  ·exact (hn e).elim
  ·exact ⟨_,_,by rw [e],fun h'=>absurd h' (by omega),hb⟩
 ·obtain ⟨g,cap,f,rfl,hg,hlt,hc,hr,hf⟩:=zfC h h0;refine ⟨_,_,rfl,fun _=>⟨g,0,rfl,hg,hlt,fun i hi=>?_⟩,hb⟩;rw [Nat.zero_add,hr.cell (by omega)];have:=hf i (by omega);rw [← this];simp [zJ,List.getD,List.getElem?_eq_getElem hi]
theorem clnJ_mk (w:World) (xs:List Int) (v:Value) (w':World) (h:w'.ownsRow w.heap.size 3 1 v xs.length (xs.map (Value.int .i64))) (hn:v = .slice none 0 0→False) (hb:Below w.heap.size w w'):ClnJ w xs (.returned v) w' :=
 ⟨clnI_mk w xs v w' h hn hb,fun h0=>by
   obtain ⟨g,cap,f,rfl,hg,hlt,hc,hr,hf⟩:=zfC h h0;rw [Nat.mul_one] at hr;exact ⟨g,cap,f,_,rfl,hg,hr,hc⟩⟩
theorem clnN_mk (w:World) (n:Nat) (f:Nat→Value) (v:Value) (w':World) (h:w'.ownsRow w.heap.size 76 3 v n ((List.range (n*3)).map f)) (hn:v = .slice none 0 0→False) (hb:Below w.heap.size w w'):ClnN w n f (.returned v) w':=by
 rcases Nat.eq_zero_or_pos n with h0 | h0
 ·rcases h.2 with ⟨e,_⟩ | ⟨g,cap,cur,e,_⟩
  ·exact (hn e).elim
  ·exact ⟨_,_,by rw [e],fun h'=>absurd h' (by omega),hb⟩
 ·obtain ⟨g,cap,F,rfl,hg,hlt,hc,hr,hf⟩:=zfC h h0;refine ⟨_,_,rfl,fun _=>⟨g,F,rfl,hg,hc,hr,fun i hi=>?_⟩,hb⟩;have:=hf i hi;have e:((List.range (n*3)).map f)[i]?=some (f i):=by simp [hi]
  rw [e] at this;exact (Option.some.inj this).symm
theorem zei (w:World) (A:Option Addr) (c:Nat) (xs:List Int) (hlen:xs.length≤1000000000000) (hA:Rd w w.heap.size A xs.length (zJ xs)) :
  Calls Tryz.prog 42 #[.slice A xs.length c] w (ClnJ w xs):=by
 obtain ⟨i0,hi,hz0,hz1,hz2⟩:=info_parts zi6;have q22:∀ (w:World) (a:Option Addr) (n c n' c':Nat),(binOp .eql 52 (.slice a n c) (.slice none n' c')).run Tryz.prog w = .ok (.bool a.isNone) w:=fun w a n c n' c'=>Lib.run_eql_slice_nil w _ _ a n c n' c' Tryz.underlying52;cases A with
 | none =>
   have h0:xs.length=0:=by
    rcases Nat.eq_zero_or_pos xs.length with h | h
    ·exact h
    ·obtain ⟨b,o,e,_⟩:=hA h;cases e
   obtain rfl:xs=[]:=List.eq_nil_of_length_eq_zero h0;clear h0 hA hlen;go_enter Tryz.func42, Tryz.ntmps42;go_wp2;go_ret;exact ⟨⟨none,0,rfl,fun h=>absurd h (by simp),zA _ _⟩,fun h=>absurd h (by simp)⟩
 | some a =>
   have HA:=za hA;clear hA;go_enter Tryz.func42, Tryz.ntmps42;go_wp2_with (at_builtin;refine wpList_append_own _ rfl _ _ 52 rfl w.heap.size 3 i0 (.int .i64 0) 1 8 Tryz.underlying52 hi hz0 hz1 hz2 rfl (by decide) _ _ _ rfl (World.ownsRow_made w #[] 0 (zi _) (Nat.zero_le _) rfl) a xs.length c (xs.map (Value.int .i64)) rfl ?qc1 ?qc2 ?qc3 ?qc4 ?qc5 ?qc6 ?_)
   case qc1=>simp
   case qc2 =>
    intro j u hj;have hjn:j<xs.length:=by
     have:=(List.getElem?_eq_some_iff.1 hj).1;simpa using this
    obtain ⟨b,o,e,hB,hc⟩:=HA.out (by omega);obtain rfl:a=⟨b,o,none⟩:=by injection e
    rw [Addr.add_lit];refine Lib.cell?_alloc_some _ ?_;rw [hc j hjn];have e:(xs.map (Value.int .i64))[j]?=some (zJ xs j):=by simp [zJ,List.getD,List.getElem?_eq_getElem hjn]
    rw [e] at hj;exact hj
   case qc3=>intro u hu;obtain ⟨x,_,rfl⟩:=List.mem_map.1 hu;rfl
   case qc4=>unfold maxLen;omega
   case qc5=>omega
   case qc6=>simp
   intro v' w1 hown hgrow hnil;go_wp2;go_ret;exact clnJ_mk w xs v' w1 (by simpa using hown) hnil (((Below.refl _ w).alloc (zi _) _).grown hgrow (by simp) (by intro k hk;simp [Value.ownBlock] at hk;omega))
theorem zh9 (w:World) (A:Option Addr) (c:Nat) (xs:List Int) (hlen:xs.length≤1000000000000) (hA:Rd w w.heap.size A xs.length (zJ xs)) :
  Calls Tryz.prog 42 #[.slice A xs.length c] w (ClnI w xs):=(zei w A c xs hlen hA).mono fun e w' h=>h.1
theorem zgk (w:World) (A:Option Addr) (c:Nat) (n:Nat) (f:Nat→Value) (hlen:n≤1000000000000) (h1:∀ i,i<n*3→(f i).oneCell'=true) (hA:Rd w w.heap.size A (n*3) f) :
  Calls Tryz.prog 41 #[.slice A n c] w (ClnN w n f):=by
 obtain ⟨i0,hi,hz0,hz1,hz2⟩:=info_parts pE;have q22:∀ (w:World) (a:Option Addr) (n c n' c':Nat),(binOp .eql 22 (.slice a n c) (.slice none n' c')).run Tryz.prog w = .ok (.bool a.isNone) w:=fun w a n c n' c'=>Lib.run_eql_slice_nil w _ _ a n c n' c' Tryz.underlying22;cases A with
 | none =>
   obtain rfl:n=0:=by
    rcases Nat.eq_zero_or_pos n with h | h
    ·exact h
    ·obtain ⟨b,o,e,_⟩:=hA (by omega);cases e
   clear hA hlen h1;go_enter Tryz.func41, Tryz.ntmps41;go_wp2;go_ret;exact ⟨none,0,rfl,fun h=>absurd h (by omega),zA _ _⟩
 | some a =>
   have HA:=za hA;clear hA;go_enter Tryz.func41, Tryz.ntmps41;go_wp2_with (at_builtin;refine wpList_append_own _ rfl _ _ 22 rfl w.heap.size 76 i0 (.agg #[.int .i64 0,.int .i64 0,.slice none 0 0]) 3 40 Tryz.underlying22 hi hz0 hz1 hz2 rfl (by decide) _ _ _ rfl (World.ownsRow_made w #[] 0 (zi _) (Nat.zero_le _) rfl) a n c ((List.range (n*3)).map f) rfl ?qc1 ?qc2 ?qc3 ?qc4 ?qc5 ?qc6 ?_)
   case qc1=>simp
   case qc2 =>
    intro j u hj;have hjn:j<n*3:=by
     have:=(List.getElem?_eq_some_iff.1 hj).1;simpa using this
    obtain ⟨b,o,e,hB,hc⟩:=HA.out (by omega);obtain rfl:a=⟨b,o,none⟩:=by injection e
    rw [Addr.add_lit];refine Lib.cell?_alloc_some _ ?_;rw [hc j hjn];have e:((List.range (n*3)).map f)[j]?=some (f j):=by simp [hjn]
    rw [e] at hj;exact hj
   case qc3=>intro u hu;obtain ⟨x,hx,rfl⟩:=List.mem_map.1 hu;exact h1 x (by simpa using hx)
   case qc4=>unfold maxLen;omega
   case qc5=>omega
   case qc6=>simp
   intro v' w1 hown hgrow hnil;go_wp2;go_ret;exact clnN_mk w n f v' w1 (by simpa using hown) hnil (((Below.refl _ w).alloc (zi _) _).grown hgrow (by simp) (by intro k hk;simp [Value.ownBlock] at hk;omega))
end Go.Proofs.YtoljkoifgnmbgaaGreatDoor
end
section
open Go Go.RowKit Cs
namespace Go.Proofs.YtoljkoifgnmbgaaGreatDoor
def jn (w:World) (A:Option Addr) (i:Nat):Value:=match A with | some ⟨b,o,none⟩=>(w.cell? ⟨b,o+i,none⟩).getD undef | _=>undef
theorem zkD {w:World} {N:Nt} {A:Option Addr} (hN:NtAt w w.heap.size A N.l):Rd w w.heap.size A (N.l.length*3) (jn w A)∧∀ i,i<N.l.length*3→(jn w A i).oneCell'=true:=by
 have key:0<N.l.length→∃ b o,A=some ⟨b,o,none⟩∧b<w.heap.size∧∀ i,i<N.l.length*3→∃ v,w.cell? ⟨b,o+i,none⟩=some v∧v.oneCell'=true:=fun h0=>by
  obtain ⟨b,o,rfl,hB,hc⟩:=hN h0;refine ⟨b,o,rfl,hB,fun i hi=>?_⟩;have hd:i / 3<N.l.length:=by omega
  obtain ⟨h1,h2,⟨A1,c1,h3,h4⟩,_,_,_,_⟩:=hc (i / 3) hd;have hm:i%3=0∨i%3=1∨i%3=2:=by omega
  rcases hm with hm | hm | hm
  ·exact ⟨_,by rw [show o+i=o+i / 3*3 by omega];exact h1,rfl⟩
  ·exact ⟨_,by rw [show o+i=o+i / 3*3+1 by omega];exact h2,rfl⟩
  ·exact ⟨_,by rw [show o+i=o+i / 3*3+2 by omega];exact h3,rfl⟩
 constructor
 ·intro h;obtain ⟨b,o,rfl,hB,hc⟩:=key (by omega);refine ⟨b,o,rfl,hB,fun i hi=>?_⟩;obtain ⟨v,hv,_⟩:=hc i hi;show _=some ((w.cell? ⟨b,o+i,none⟩).getD undef);rw [hv];rfl
 ·intro i hi;obtain ⟨b,o,rfl,hB,hc⟩:=key (by omega);obtain ⟨v,hv,h1⟩:=hc i hi;show ((w.cell? ⟨b,o+i,none⟩).getD undef).oneCell'=true;rw [hv];exact h1
theorem _root_.Cs.RdK.less {w:World} {D D' B:Nat} {A:Option Addr} {n:Nat} {f:Nat→Value} (h:RdK w D B A n f) (hD:D'≤D):RdK w D' B A n f:=fun hn=>by
 obtain ⟨b,o,e,hb,hB,hc⟩:=h hn;exact ⟨b,o,e,by omega,hB,hc⟩
def ClnM (w:World) (n:Nat) (f:Nat→Value) (e:Ending) (w':World):Prop:=∃ A c,e = .returned (.slice A n c)∧(0<n→∃ g F,A=some ⟨g,0,none⟩∧w.heap.size≤g∧n≤c∧w'.rowIs g 54 (c*1) F∧∀ i,i<n→F i=f i)∧Below w.heap.size w w'
theorem clnM_mk (w:World) (n:Nat) (f:Nat→Value) (v:Value) (w':World) (h:w'.ownsRow w.heap.size 54 1 v n ((List.range (n)).map f)) (hn:v = .slice none 0 0→False) (hb:Below w.heap.size w w'):ClnM w n f (.returned v) w':=by
 rcases Nat.eq_zero_or_pos n with h0 | h0
 ·rcases h.2 with ⟨e,_⟩ | ⟨g,cap,cur,e,_⟩
  ·exact (hn e).elim
  ·exact ⟨_,_,by rw [e],fun h'=>absurd h' (by omega),hb⟩
 ·obtain ⟨g,cap,F,rfl,hg,hlt,hc,hr,hf⟩:=zeW h h0;refine ⟨_,_,rfl,fun _=>⟨g,F,rfl,hg,hc,hr,fun i hi=>?_⟩,hb⟩;have:=hf i (by omega);have e:((List.range (n)).map f)[i]?=some (f i):=by simp [hi]
  rw [e] at this;exact (Option.some.inj this).symm
theorem zh8 (w:World) (A:Option Addr) (c:Nat) (n:Nat) (f:Nat→Value) (hlen:n≤1000000000000) (h1:∀ i,i<n→(f i).oneCell'=true) (hA:Rd w w.heap.size A (n) f) :
  Calls Tryz.prog 49 #[.slice A n c] w (ClnM w n f):=by
 obtain ⟨i0,hi,hz0,hz1,hz2⟩:=info_parts zh0;have q22:∀ (w:World) (a:Option Addr) (n c n' c':Nat),(binOp .eql 56 (.slice a n c) (.slice none n' c')).run Tryz.prog w = .ok (.bool a.isNone) w:=fun w a n c n' c'=>Lib.run_eql_slice_nil w _ _ a n c n' c' Tryz.underlying56;cases A with
 | none =>
   obtain rfl:n=0:=by
    rcases Nat.eq_zero_or_pos n with h | h
    ·exact h
    ·obtain ⟨b,o,e,_⟩:=hA (by omega);cases e
   clear hA hlen h1;go_enter Tryz.func49, Tryz.ntmps49;go_wp2;go_ret;exact ⟨none,0,rfl,fun h=>absurd h (by omega),zA _ _⟩
 | some a =>
   have HA:=za hA;clear hA;go_enter Tryz.func49, Tryz.ntmps49;go_wp2_with (at_builtin;refine wpList_append_own _ rfl _ _ 56 rfl w.heap.size 54 i0 (.agg #[.string ⟨#[]⟩]) 1 16 Tryz.underlying56 hi hz0 hz1 hz2 rfl (by decide) _ _ _ rfl (World.ownsRow_made w #[] 0 (zi _) (Nat.zero_le _) rfl) a n c ((List.range (n)).map f) rfl ?qc1 ?qc2 ?qc3 ?qc4 ?qc5 ?qc6 ?_)
   case qc1=>simp
   case qc2 =>
    intro j u hj;have hjn:j<n:=by
     have:=(List.getElem?_eq_some_iff.1 hj).1;simpa using this
    obtain ⟨b,o,e,hB,hc⟩:=HA.out (by omega);obtain rfl:a=⟨b,o,none⟩:=by injection e
    rw [Addr.add_lit];refine Lib.cell?_alloc_some _ ?_;rw [hc j hjn];have e:((List.range (n)).map f)[j]?=some (f j):=by simp [hjn]
    rw [e] at hj;exact hj
   case qc3=>intro u hu;obtain ⟨x,hx,rfl⟩:=List.mem_map.1 hu;exact h1 x (by simpa using hx)
   case qc4=>unfold maxLen;omega
   case qc5=>omega
   case qc6=>simp
   intro v' w1 hown hgrow hnil;go_wp2;go_ret;exact clnM_mk w n f v' w1 (by simpa using hown) hnil (((Below.refl _ w).alloc (zi _) _).grown hgrow (by simp) (by intro k hk;simp [Value.ownBlock] at hk;omega))
end Go.Proofs.YtoljkoifgnmbgaaGreatDoor
end
