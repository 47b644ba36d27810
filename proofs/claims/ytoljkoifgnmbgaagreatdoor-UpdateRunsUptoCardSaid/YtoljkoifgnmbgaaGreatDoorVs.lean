import Derived.Test.YtoljkoifgnmbgaaGreatDoorVc
import Derived.Test.YtoljkoifgnmbgaaGreatDoorDw
import Derived.Test.YtoljkoifgnmbgaaGreatDoorCl
set_option linter.unusedSimpArgs false
set_option linter.unusedVariables false
open Go Go.RowKit Cs
namespace Cs
def NaR (w:World) (g:Nat) (t:TypeId) (m n:Nat) (L:List Nat):Prop:=∃ F,w.rowIs g t m F∧∀ i,i<n→F i=qI L i
section
variable {w w':World} {g m n:Nat} {t:TypeId} {L:List Nat}
theorem NaR.of_block (h:NaR w g t m n L) (hb:w'.heap[g]?=w.heap[g]?):NaR w' g t m n L:=by
 obtain ⟨F,h1,h2⟩:=h;exact ⟨F,h1.of_block hb,h2⟩
theorem NaR.lt (h:NaR w g t m n L):g<w.heap.size:=by obtain ⟨F,h1,h2⟩:=h;exact h1.lt
theorem NaR.below (h:NaR w g t m n L) (hb:Below w.heap.size w w'):NaR w' g t m n L:=h.of_block (hb.block g h.lt)
theorem NaR.setOther (h:NaR w g t m n L) {a:Addr} (ha:g≠a.block) (v:Value):NaR (w.setCell a v) g t m n L:=by
 obtain ⟨F,h1,h2⟩:=h;exact ⟨F,h1.setOther ha v,h2⟩
theorem NaR.cells (h:NaR w g t m n L) (hm:n≤m) (k:Nat) (hk:k<n):w.cell? ⟨g,k,none⟩=some (.string (zb (L.getD k 0)))∧w.frozen? ⟨g,k,none⟩=false:=by
 obtain ⟨F,h1,h2⟩:=h;exact ⟨(h1.cell (i:=k) (by omega)).trans (by rw [h2 _ hk];rfl),h1.frozen _⟩
theorem zbD {α:Type} (L:List α) (k:Nat) (p z:α) (hk:k<L.length) (j:Nat):(L.set k p).getD j z=if j=k then p else L.getD j z:=by
 rw [List.getD_eq_getElem?_getD,List.getD_eq_getElem?_getD,List.getElem?_set];split
 ·rename_i h1;rw [if_pos h1.symm];subst h1;first | rfl | (rw [if_pos (by omega)];rfl)
 ·rename_i h1;rw [if_neg (fun h=>h1 h.symm)]
theorem NaR.set (h:NaR w g t m n L) (p:Nat) (k:Nat) (hL:k<L.length):NaR (w.setCell ⟨g,k,none⟩ (.string (zb p))) g t m n (L.set k p):=by
 obtain ⟨F,h1,h2⟩:=h;refine ⟨_,h1.set _ _,fun i hi=>?_⟩;by_cases h3:i=k
 ·subst h3;rw [if_pos rfl];unfold qI;rw [zbD _ _ _ _ hL,if_pos rfl]
 ·rw [if_neg h3,h2 i hi];unfold qI;rw [zbD _ _ _ _ hL,if_neg h3]
theorem NaR.rd (h:NaR w g t m n L) (hm:n≤m):Rd w w.heap.size (some ⟨g,0,none⟩) n (qI L):=fun _=>by
 obtain ⟨F,h1,h2⟩:=h;exact ⟨g,0,rfl,h1.lt,fun i hi=>by rw [Nat.zero_add,h1.cell (i:=i) (by omega),h2 i hi]⟩
theorem PrR.of_block {L:List Pr} (h:PrR w g t m n L) (hb:w'.heap[g]?=w.heap[g]?):PrR w' g t m n L:=by
 obtain ⟨F,h1,h2⟩:=h;exact ⟨F,h1.of_block hb,h2⟩
end
structure Keep (S:List Nat) (w w':World):Prop where
 os:w'.os=w.os
 tape:w'.tape=w.tape
 output:w'.output=w.output
 size:w.heap.size≤w'.heap.size
 block:∀ k,k<w.heap.size→k ∉ S→w'.heap[k]?=w.heap[k]?
section
variable {S:List Nat} {w w' a b c:World}
theorem Keep.refl (S:List Nat) (w:World):Keep S w w:=⟨rfl,rfl,rfl,zi _,fun _ _ _=>rfl⟩
theorem Keep.trans (h:Keep S a b) (k:Keep S b c):Keep S a c :=
 ⟨k.os.trans h.os,k.tape.trans h.tape,k.output.trans h.output,Nat.le_trans h.size k.size,fun i hi hS=>(k.block i (Nat.lt_of_lt_of_le hi h.size) hS).trans (h.block i hi hS)⟩
theorem Keep.of (h:Below w.heap.size w w') (S:List Nat):Keep S w w':=⟨h.os,h.tape,h.output,h.size,fun k hk _=>h.block k hk⟩
theorem Keep.below (h:Keep S a b) (k:Below b.heap.size b c):Keep S a c:=h.trans (Keep.of k S)
theorem Keep.more (h:Keep S a b) {S':List Nat} (hs:∀ x∈S,x∈S'):Keep S' a b:=⟨h.os,h.tape,h.output,h.size,fun k hk hS=>h.block k hk fun h2=>hS (hs k h2)⟩
theorem Keep.drew (h:Keep S a b):Keep S a b.drew:=⟨h.os,h.tape,h.output,h.size,h.block⟩
theorem Keep.alloc (h:Keep S a b) (o:Obj):Keep S a (b.alloc o):=h.below ((zA _ _).alloc (zi _) _)
theorem Keep.set (h:Keep S a b) {p:Addr} (hp:p.block∈S∨a.heap.size≤p.block) (v:Value):Keep S a (b.setCell p v) :=
 ⟨h.os,h.tape,h.output,Nat.le_trans h.size (Nat.le_of_eq (Cs.zf b p v).symm),fun k hk hS=>(Below.heap_setCell b p v k (by
   rintro rfl;rcases hp with hp | hp
   ·exact hS hp
   ·omega)).trans (h.block k hk hS)⟩
theorem Keep.toBelow (h:Keep S a b) {D:Nat} (hD:∀ x∈S,D≤x) (hs:D≤a.heap.size):Below D a b :=
 ⟨h.os,h.tape,h.output,h.size,fun k hk=>h.block k (Nat.lt_of_lt_of_le hk hs) fun h2=>absurd (hD k h2) (by omega)⟩
end
def Rof (w:World) (D E b:Nat) (P:World→Prop):Prop:=∀ w':World,w.heap.size≤w'.heap.size→(∀ g,D≤g→g<E→g≠b→w'.heap[g]?=w.heap[g]?)→P w'
section
variable {w w1:World} {D E D' E' b:Nat} {P Q:World→Prop}
theorem Rof.now (h:Rof w D E b P):P w:=h w (zi _) fun _ _ _ _=>rfl
theorem Rof.go (h:Rof w D E b P) (hs:w.heap.size≤w1.heap.size) (hb:∀ g,D≤g→g<E→g≠b→w1.heap[g]?=w.heap[g]?):Rof w1 D E b P :=
 fun w' h1 h2=>h w' (Nat.le_trans hs h1) fun g a1 a2 a3=>(h2 g a1 a2 a3).trans (hb g a1 a2 a3)
theorem Rof.below (h:Rof w D E b P) (hk:Below E w w1):Rof w1 D E b P:=h.go hk.size fun g _ h2 _=>hk.block g h2
theorem Rof.wide (h:Rof w D E b P) (h1:D'≤D) (h2:E≤E'):Rof w D' E' b P:=fun w' hs hb=>h w' hs fun g a1 a2 a3=>hb g (by omega) (by omega) a3
theorem Rof.both (h:Rof w D E b P) (k:Rof w D E b Q):Rof w D E b fun W=>P W∧Q W:=fun w' hs hb=>⟨h w' hs hb,k w' hs hb⟩
theorem Rof.ofRd {A:Option Addr} {n:Nat} {f:Nat→Value} (h:RdK w (b+1) E A n f) (hE:E≤w.heap.size) (hD:D≤b+1):Rof w D E b fun W=>Rd W W.heap.size A n f :=
 fun w' hs hb=>(h.agree (w':=w') fun g a1 a2=>hb g (by omega) a2 (by omega)).rd.more (Nat.le_trans hE hs)
end
structure Sg where
 b:Nat
 A:Option Addr
 cA:Nat
 O:Option Addr
 cO:Nat
 bl:Nat
 cl:Nat
 bh:Nat
 ch:Nat
 bL:Nat
 cL:Nat
 pl:Nat
 dl:Nat
 ph:Nat
 dh:Nat
 pL:Nat
 dL:Nat
 Wl:Option Addr
 el:Nat
 Wh:Option Addr
 eh:Nat
def Sg.rows (g:Sg):List Nat:=[g.bl,g.bh,g.bL,g.pl,g.ph,g.pL]
structure SgOk (g:Sg) (D E n m:Nat):Prop where
 bD:D≤g.b
 bE:g.b<E
 rE:∀ x∈g.rows,E≤x
 nd:g.rows.Nodup
 hcl:n+1≤g.cl
 hch:n+1≤g.ch
 hcL:m≤g.cL
 hdl:n+1≤g.dl
 hdh:n+1≤g.dh
 hdL:m≤g.dL
def SsRo (g:Sg) (N:Nt) (n:Nat) (lo hi:List Pr) (W:World):Prop :=
 NtAt W W.heap.size g.A N.l∧Rd W W.heap.size g.O (N.l.length*2) (zK (own N.l))∧Rd W W.heap.size g.Wl ((n+1)*2) (zT lo)∧Rd W W.heap.size g.Wh ((n+1)*2) (zT hi)
end Cs
namespace Go.Proofs.YtoljkoifgnmbgaaGreatDoor
def sesF (g:Sg) (N:Nt) (n:Nat) (tv:Value) (k:Int) (i:Nat):Value :=
 if i=3 then tv else if i=4 then .int .i64 k else (#[.int .i64 N.n,.slice g.A N.l.length g.cA,.slice g.O N.l.length g.cO,undef,undef,
  .string (zb 1),.func (.func 36) #[] #[],.func (.func 48) #[] #[],.slice (some ⟨g.bl,0,none⟩) (n+1) g.cl,.slice (some ⟨g.bh,0,none⟩) (n+1) g.ch,.slice (some ⟨g.bL,0,none⟩) N.l.length g.cL,
  .string (zb 1),.string (zb 1),.func (.func 50) #[] #[],.func (.func 51) #[] #[],.slice (some ⟨g.pl,0,none⟩) (n+1) g.dl,.slice (some ⟨g.ph,0,none⟩) (n+1) g.dh,.slice (some ⟨g.pL,0,none⟩) N.l.length g.dL,
  .slice g.Wl (n+1) g.el,.slice g.Wh (n+1) g.eh]:Array Value).getD i undef
structure SsAt (w:World) (D E:Nat) (g:Sg) (N:Nt) (n:Nat) (lo hi:List Pr) (tv:Value) (T:List Int) (k:Int) (C1 C2 C3:List Nat) (P1 P2 P3:List Pr):Prop where
 row:w.rowIs g.b 65 20 (sesF g N n tv k)
 ro:Rof w D E g.b (SsRo g N n lo hi)
 c1:NaR w g.bl 54 g.cl (n+1) C1
 c2:NaR w g.bh 54 g.ch (n+1) C2
 c3:NaR w g.bL 54 g.cL N.l.length C3
 p1:PrR w g.pl 60 (g.dl*2) (n+1) P1
 p2:PrR w g.ph 60 (g.dh*2) (n+1) P2
 p3:PrR w g.pL 60 (g.dL*2) N.l.length P3
 tr:w.ownsRow E 3 1 tv T.length (T.map (Value.int .i64))
 ok:SgOk g D E n N.l.length
 tn:∀ x,tv.ownBlock=some x→x ∉ g.rows
 eU:E≤w.heap.size
 l1:C1.length=n+1
 l2:C2.length=n+1
 l3:C3.length=N.l.length
 q1:P1.length=n+1
 q2:P2.length=n+1
 q3:P3.length=N.l.length
section
variable {w w':World} {D E:Nat} {g:Sg} {N:Nt} {n:Nat} {lo hi:List Pr} {tv:Value} {T:List Int} {k:Int} {C1 C2 C3:List Nat} {P1 P2 P3:List Pr}
theorem _root_.Cs.SgOk.bne {m:Nat} (h:SgOk g D E n m) {x:Nat} (hx:x∈g.rows):g.b≠x:=by
 have:=h.rE x hx;have:=h.bE;omega
theorem SsAt.below (h:SsAt w D E g N n lo hi tv T k C1 C2 C3 P1 P2 P3) (hb:Below w.heap.size w w'):SsAt w' D E g N n lo hi tv T k C1 C2 C3 P1 P2 P3 :=
 ⟨zh h.row hb,h.ro.below (hb.mono h.eU),h.c1.below hb,h.c2.below hb,h.c3.below hb,h.p1.below hb,h.p2.below hb,h.p3.below hb,yp h.tr hb,h.ok,h.tn,Nat.le_trans h.eU hb.size,h.l1,h.l2,h.l3,h.q1,h.q2,h.q3⟩
theorem SsAt.drew (h:SsAt w D E g N n lo hi tv T k C1 C2 C3 P1 P2 P3):SsAt w.drew D E g N n lo hi tv T k C1 C2 C3 P1 P2 P3:=h.below (qw (zA _ _) 1)
theorem SsAt.alloc (h:SsAt w D E g N n lo hi tv T k C1 C2 C3 P1 P2 P3) (o:Obj):SsAt (w.alloc o) D E g N n lo hi tv T k C1 C2 C3 P1 P2 P3:=h.below ((zA _ _).alloc (zi _) _)
theorem zbH {w:World} {base:Nat} {e:TypeId} {size:Nat} {v:Value} {m:Nat} {xs:List Value} (h:w.ownsRow base e size v m xs) {a:Addr} (ha:v.ownBlock≠some a.block) (u:Value):(w.setCell a u).ownsRow base e size v m xs :=
 ownsRow_setCell_other h ha u
theorem SsAt.tE (h:SsAt w D E g N n lo hi tv T k C1 C2 C3 P1 P2 P3) {x:Nat} (hx:x<E):tv.ownBlock≠some x:=by
 intro e;obtain ⟨_,h2⟩:=h.tr;rcases h2 with ⟨rfl,_⟩ | ⟨b,cap,cur,rfl,hb,_⟩
 ·cases e
 ·have:b=x:=by simpa [Value.ownBlock] using e
  omega
theorem SsAt.tR (h:SsAt w D E g N n lo hi tv T k C1 C2 C3 P1 P2 P3) {x:Nat} (hx:x∈g.rows):tv.ownBlock≠some x:=fun e=>h.tn x e hx
theorem SsAt.setK (h:SsAt w D E g N n lo hi tv T k C1 C2 C3 P1 P2 P3) (k':Int):SsAt (w.setCell ⟨g.b,4,none⟩ (.int .i64 k')) D E g N n lo hi tv T k' C1 C2 C3 P1 P2 P3 where
 row:=(h.row.set 4 _).congr fun i _=>by
  unfold sesF;by_cases h4:i=4
  ·subst h4;rfl
  ·rw [if_neg h4];by_cases h3:i=3
   ·rw [if_pos h3,if_pos h3]
   ·rw [if_neg h3,if_neg h3,if_neg h4,if_neg h4]
 ro:=h.ro.go (Nat.le_of_eq (zf _ _ _).symm) fun x _ _ hx=>Below.heap_setCell _ _ _ _ hx
 c1:=h.c1.setOther (Ne.symm (h.ok.bne (by simp [Sg.rows]))) _
 c2:=h.c2.setOther (Ne.symm (h.ok.bne (by simp [Sg.rows]))) _
 c3:=h.c3.setOther (Ne.symm (h.ok.bne (by simp [Sg.rows]))) _
 p1:=h.p1.setOther (Ne.symm (h.ok.bne (by simp [Sg.rows]))) _
 p2:=h.p2.setOther (Ne.symm (h.ok.bne (by simp [Sg.rows]))) _
 p3:=h.p3.setOther (Ne.symm (h.ok.bne (by simp [Sg.rows]))) _
 tr:=zbH h.tr (h.tE h.ok.bE) _
 ok:=h.ok
 tn:=h.tn
 eU:=by rw [zf];exact h.eU
 l1:=h.l1
 l2:=h.l2
 l3:=h.l3
 q1:=h.q1
 q2:=h.q2
 q3:=h.q3
theorem SsAt.fix (h:SsAt w D E g N n lo hi tv T k C1 C2 C3 P1 P2 P3) {x:Nat} (hx:x∈g.rows) (i:Nat) (v:Value):Rof (w.setCell ⟨x,i,none⟩ v) D E g.b (SsRo g N n lo hi) :=
 h.ro.go (Nat.le_of_eq (zf _ _ _).symm) fun y _ hy _=>Below.heap_setCell _ _ _ _ (by
  have:=h.ok.rE x hx;show y≠x;omega)
theorem SsAt.setC1 (h:SsAt w D E g N n lo hi tv T k C1 C2 C3 P1 P2 P3) (j x:Nat) (hj:j<C1.length):SsAt (w.setCell ⟨g.bl,j,none⟩ (.string (zb x))) D E g N n lo hi tv T k (C1.set j x) C2 C3 P1 P2 P3 where
 row:=h.row.setOther (h.ok.bne (by simp [Sg.rows])) _
 ro:=h.fix (by simp [Sg.rows]) _ _
 c1:=h.c1.set x j hj
 c2:=h.c2.setOther (fun e=>by have:=h.ok.nd;simp [Sg.rows] at this;simp [e] at this) _
 c3:=h.c3.setOther (fun e=>by have:=h.ok.nd;simp [Sg.rows] at this;simp [e] at this) _
 p1:=h.p1.setOther (fun e=>by have:=h.ok.nd;simp [Sg.rows] at this;simp [e] at this) _
 p2:=h.p2.setOther (fun e=>by have:=h.ok.nd;simp [Sg.rows] at this;simp [e] at this) _
 p3:=h.p3.setOther (fun e=>by have:=h.ok.nd;simp [Sg.rows] at this;simp [e] at this) _
 tr:=zbH h.tr (h.tR (by simp [Sg.rows])) _
 ok:=h.ok
 tn:=h.tn
 eU:=by rw [zf];exact h.eU
 l1:=(List.length_set ..).trans h.l1
 l2:=h.l2
 l3:=h.l3
 q1:=h.q1
 q2:=h.q2
 q3:=h.q3
theorem SsAt.setC2 (h:SsAt w D E g N n lo hi tv T k C1 C2 C3 P1 P2 P3) (j x:Nat) (hj:j<C2.length):SsAt (w.setCell ⟨g.bh,j,none⟩ (.string (zb x))) D E g N n lo hi tv T k C1 (C2.set j x) C3 P1 P2 P3 where
 row:=h.row.setOther (h.ok.bne (by simp [Sg.rows])) _
 ro:=h.fix (by simp [Sg.rows]) _ _
 c1:=h.c1.setOther (fun e=>by have:=h.ok.nd;simp [Sg.rows] at this;simp [e] at this) _
 c2:=h.c2.set x j hj
 c3:=h.c3.setOther (fun e=>by have:=h.ok.nd;simp [Sg.rows] at this;simp [e] at this) _
 p1:=h.p1.setOther (fun e=>by have:=h.ok.nd;simp [Sg.rows] at this;simp [e] at this) _
 p2:=h.p2.setOther (fun e=>by have:=h.ok.nd;simp [Sg.rows] at this;simp [e] at this) _
 p3:=h.p3.setOther (fun e=>by have:=h.ok.nd;simp [Sg.rows] at this;simp [e] at this) _
 tr:=zbH h.tr (h.tR (by simp [Sg.rows])) _
 ok:=h.ok
 tn:=h.tn
 eU:=by rw [zf];exact h.eU
 l1:=h.l1
 l2:=(List.length_set ..).trans h.l2
 l3:=h.l3
 q1:=h.q1
 q2:=h.q2
 q3:=h.q3
theorem SsAt.setC3 (h:SsAt w D E g N n lo hi tv T k C1 C2 C3 P1 P2 P3) (j x:Nat) (hj:j<C3.length):SsAt (w.setCell ⟨g.bL,j,none⟩ (.string (zb x))) D E g N n lo hi tv T k C1 C2 (C3.set j x) P1 P2 P3 where
 row:=h.row.setOther (h.ok.bne (by simp [Sg.rows])) _
 ro:=h.fix (by simp [Sg.rows]) _ _
 c1:=h.c1.setOther (fun e=>by have:=h.ok.nd;simp [Sg.rows] at this;simp [e] at this) _
 c2:=h.c2.setOther (fun e=>by have:=h.ok.nd;simp [Sg.rows] at this;simp [e] at this) _
 c3:=h.c3.set x j hj
 p1:=h.p1.setOther (fun e=>by have:=h.ok.nd;simp [Sg.rows] at this;simp [e] at this) _
 p2:=h.p2.setOther (fun e=>by have:=h.ok.nd;simp [Sg.rows] at this;simp [e] at this) _
 p3:=h.p3.setOther (fun e=>by have:=h.ok.nd;simp [Sg.rows] at this;simp [e] at this) _
 tr:=zbH h.tr (h.tR (by simp [Sg.rows])) _
 ok:=h.ok
 tn:=h.tn
 eU:=by rw [zf];exact h.eU
 l1:=h.l1
 l2:=h.l2
 l3:=(List.length_set ..).trans h.l3
 q1:=h.q1
 q2:=h.q2
 q3:=h.q3
theorem SsAt.setP1 (h:SsAt w D E g N n lo hi tv T k C1 C2 C3 P1 P2 P3) (j:Nat) (x:Pr) (hj:j<P1.length):SsAt ((w.setCell ⟨g.pl,j*2,none⟩ (.string (zb x.1))).setCell ⟨g.pl,j*2+1,none⟩ (.string (zb x.2))) D E g N n lo hi tv T k C1 C2 C3 (P1.set j x) P2 P3 where
 row:=(h.row.setOther (h.ok.bne (by simp [Sg.rows])) _).setOther (h.ok.bne (by simp [Sg.rows])) _
 ro:=(h.fix (by simp [Sg.rows]) _ _).go (Nat.le_of_eq (zf _ _ _).symm) fun y _ hy _=>Below.heap_setCell _ _ _ _ (by
  have:=h.ok.rE g.pl (by simp [Sg.rows]);show y≠g.pl;omega)
 c1:=(h.c1.setOther (fun e=>by have:=h.ok.nd;simp [Sg.rows] at this;simp [e] at this) _).setOther (fun e=>by have:=h.ok.nd;simp [Sg.rows] at this;simp [e] at this) _
 c2:=(h.c2.setOther (fun e=>by have:=h.ok.nd;simp [Sg.rows] at this;simp [e] at this) _).setOther (fun e=>by have:=h.ok.nd;simp [Sg.rows] at this;simp [e] at this) _
 c3:=(h.c3.setOther (fun e=>by have:=h.ok.nd;simp [Sg.rows] at this;simp [e] at this) _).setOther (fun e=>by have:=h.ok.nd;simp [Sg.rows] at this;simp [e] at this) _
 p1:=h.p1.set x j (by rw [← h.q1];exact hj) h.q1
 p2:=(h.p2.setOther (fun e=>by have:=h.ok.nd;simp [Sg.rows] at this;simp [e] at this) _).setOther (fun e=>by have:=h.ok.nd;simp [Sg.rows] at this;simp [e] at this) _
 p3:=(h.p3.setOther (fun e=>by have:=h.ok.nd;simp [Sg.rows] at this;simp [e] at this) _).setOther (fun e=>by have:=h.ok.nd;simp [Sg.rows] at this;simp [e] at this) _
 tr:=zbH (zbH h.tr (h.tR (by simp [Sg.rows])) _) (h.tR (by simp [Sg.rows])) _
 ok:=h.ok
 tn:=h.tn
 eU:=by rw [zf,zf];exact h.eU
 l1:=h.l1
 l2:=h.l2
 l3:=h.l3
 q1:=(List.length_set ..).trans h.q1
 q2:=h.q2
 q3:=h.q3
theorem SsAt.setP2 (h:SsAt w D E g N n lo hi tv T k C1 C2 C3 P1 P2 P3) (j:Nat) (x:Pr) (hj:j<P2.length):SsAt ((w.setCell ⟨g.ph,j*2,none⟩ (.string (zb x.1))).setCell ⟨g.ph,j*2+1,none⟩ (.string (zb x.2))) D E g N n lo hi tv T k C1 C2 C3 P1 (P2.set j x) P3 where
 row:=(h.row.setOther (h.ok.bne (by simp [Sg.rows])) _).setOther (h.ok.bne (by simp [Sg.rows])) _
 ro:=(h.fix (by simp [Sg.rows]) _ _).go (Nat.le_of_eq (zf _ _ _).symm) fun y _ hy _=>Below.heap_setCell _ _ _ _ (by
  have:=h.ok.rE g.ph (by simp [Sg.rows]);show y≠g.ph;omega)
 c1:=(h.c1.setOther (fun e=>by have:=h.ok.nd;simp [Sg.rows] at this;simp [e] at this) _).setOther (fun e=>by have:=h.ok.nd;simp [Sg.rows] at this;simp [e] at this) _
 c2:=(h.c2.setOther (fun e=>by have:=h.ok.nd;simp [Sg.rows] at this;simp [e] at this) _).setOther (fun e=>by have:=h.ok.nd;simp [Sg.rows] at this;simp [e] at this) _
 c3:=(h.c3.setOther (fun e=>by have:=h.ok.nd;simp [Sg.rows] at this;simp [e] at this) _).setOther (fun e=>by have:=h.ok.nd;simp [Sg.rows] at this;simp [e] at this) _
 p1:=(h.p1.setOther (fun e=>by have:=h.ok.nd;simp [Sg.rows] at this;simp [e] at this) _).setOther (fun e=>by have:=h.ok.nd;simp [Sg.rows] at this;simp [e] at this) _
 p2:=h.p2.set x j (by rw [← h.q2];exact hj) h.q2
 p3:=(h.p3.setOther (fun e=>by have:=h.ok.nd;simp [Sg.rows] at this;simp [e] at this) _).setOther (fun e=>by have:=h.ok.nd;simp [Sg.rows] at this;simp [e] at this) _
 tr:=zbH (zbH h.tr (h.tR (by simp [Sg.rows])) _) (h.tR (by simp [Sg.rows])) _
 ok:=h.ok
 tn:=h.tn
 eU:=by rw [zf,zf];exact h.eU
 l1:=h.l1
 l2:=h.l2
 l3:=h.l3
 q1:=h.q1
 q2:=(List.length_set ..).trans h.q2
 q3:=h.q3
theorem SsAt.setP3 (h:SsAt w D E g N n lo hi tv T k C1 C2 C3 P1 P2 P3) (j:Nat) (x:Pr) (hj:j<P3.length):SsAt ((w.setCell ⟨g.pL,j*2,none⟩ (.string (zb x.1))).setCell ⟨g.pL,j*2+1,none⟩ (.string (zb x.2))) D E g N n lo hi tv T k C1 C2 C3 P1 P2 (P3.set j x) where
 row:=(h.row.setOther (h.ok.bne (by simp [Sg.rows])) _).setOther (h.ok.bne (by simp [Sg.rows])) _
 ro:=(h.fix (by simp [Sg.rows]) _ _).go (Nat.le_of_eq (zf _ _ _).symm) fun y _ hy _=>Below.heap_setCell _ _ _ _ (by
  have:=h.ok.rE g.pL (by simp [Sg.rows]);show y≠g.pL;omega)
 c1:=(h.c1.setOther (fun e=>by have:=h.ok.nd;simp [Sg.rows] at this;simp [e] at this) _).setOther (fun e=>by have:=h.ok.nd;simp [Sg.rows] at this;simp [e] at this) _
 c2:=(h.c2.setOther (fun e=>by have:=h.ok.nd;simp [Sg.rows] at this;simp [e] at this) _).setOther (fun e=>by have:=h.ok.nd;simp [Sg.rows] at this;simp [e] at this) _
 c3:=(h.c3.setOther (fun e=>by have:=h.ok.nd;simp [Sg.rows] at this;simp [e] at this) _).setOther (fun e=>by have:=h.ok.nd;simp [Sg.rows] at this;simp [e] at this) _
 p1:=(h.p1.setOther (fun e=>by have:=h.ok.nd;simp [Sg.rows] at this;simp [e] at this) _).setOther (fun e=>by have:=h.ok.nd;simp [Sg.rows] at this;simp [e] at this) _
 p2:=(h.p2.setOther (fun e=>by have:=h.ok.nd;simp [Sg.rows] at this;simp [e] at this) _).setOther (fun e=>by have:=h.ok.nd;simp [Sg.rows] at this;simp [e] at this) _
 p3:=h.p3.set x j (by rw [← h.q3];exact hj) h.q3
 tr:=zbH (zbH h.tr (h.tR (by simp [Sg.rows])) _) (h.tR (by simp [Sg.rows])) _
 ok:=h.ok
 tn:=h.tn
 eU:=by rw [zf,zf];exact h.eU
 l1:=h.l1
 l2:=h.l2
 l3:=h.l3
 q1:=h.q1
 q2:=h.q2
 q3:=(List.length_set ..).trans h.q3
theorem SsAt.cell (h:SsAt w D E g N n lo hi tv T k C1 C2 C3 P1 P2 P3) (i:Nat) (hi:i<20) (v:Value) (hv:sesF g N n tv k i=v):w.cell? ⟨g.b,i,none⟩=some v:=(h.row.cell hi).trans (by rw [hv])
theorem SsAt.lt (h:SsAt w D E g N n lo hi tv T k C1 C2 C3 P1 P2 P3):g.b<w.heap.size:=h.row.lt
end
end Go.Proofs.YtoljkoifgnmbgaaGreatDoor
