import Derived.Test.YtoljkoifgnmbgaaGreatDoorVh
import Derived.Test.YtoljkoifgnmbgaaGreatDoorVx
set_option linter.unusedSimpArgs false
set_option linter.unusedVariables false
open Go Go.RowKit Cs
namespace Go.Proofs.YtoljkoifgnmbgaaGreatDoor
structure NdS (W w:World) (D b:Nat) (F:Nat→Value) (x:Nd) (i k:Nat):Prop where
 kind:F (i*3) = .int .i64 x.kind
 lit:F (i*3+1) = .int .i64 x.lit
 ins:∃ A c,F (i*3+2) = .slice A x.ins.length c∧(i<k→RdK W (b+1) W.heap.size A x.ins.length (intF x.ins))∧(k≤i→Rd w D A x.ins.length (intF x.ins))
theorem NdS.start {w W:World} {N:Nt} {A:Option Addr} {b:Nat} (hN:NtAt w w.heap.size A N.l) (F:Nat→Value) (hF:∀ i,i<N.l.length*3→F i=cellF w A i) (i:Nat) (h:i<N.l.length):NdS W w w.heap.size b F N.l[i] i 0:=by
 obtain ⟨b0,o,rfl,hB,hc⟩:=hN (by omega);obtain ⟨h1,h2,⟨A1,c1,h3,h4⟩,_,_,_,_⟩:=hc i h;refine ⟨?_,?_,A1,c1,?_,fun h=>absurd h (by omega),fun _=>h4⟩
 ·rw [hF _ (by omega)];show (w.cell? ⟨b0,o+i*3,none⟩).getD undef=_;rw [h1];rfl
 ·rw [hF _ (by omega)];show (w.cell? ⟨b0,o+(i*3+1),none⟩).getD undef=_;rw [show o+(i*3+1)=o+i*3+1 by omega,h2];rfl
 ·rw [hF _ (by omega)];show (w.cell? ⟨b0,o+(i*3+2),none⟩).getD undef=_;rw [show o+(i*3+2)=o+i*3+2 by omega,h3];rfl
def putF (F:Nat→Value) (i:Nat) (v:Value) (j:Nat):Value:=if j=i then v else F j
structure NwAt (w wr:World) (N:Nt) (A0:Option Addr) (c0:Nat) (Al Ah:Option Addr) (cl ch n b:Nat) (F:Nat→Value):Prop where
 b2:wr.rowIs w.heap.size 24 2 (ntF N A0 c0)
 b3:wr.rowIs (w.heap.size+1) 30 2 (arrF #[.slice Al (n+1) cl,.slice Ah (n+1) ch])
 row:wr.rowIs b 65 20 F
 lb:w.heap.size+1<b
 bl:Below w.heap.size w wr
section
variable {w wr w':World} {N:Nt} {A0:Option Addr} {c0:Nat} {Al Ah:Option Addr} {cl ch n b:Nat} {F:Nat→Value}
theorem NwAt.below (h:NwAt w wr N A0 c0 Al Ah cl ch n b F) (hb:Below wr.heap.size wr w'):NwAt w w' N A0 c0 Al Ah cl ch n b F :=
 ⟨rowBelow h.b2 hb,rowBelow h.b3 hb,rowBelow h.row hb,h.lb,zqx h.bl hb h.bl.size⟩
theorem NwAt.set (h:NwAt w wr N A0 c0 Al Ah cl ch n b F) (i:Nat) (v:Value):NwAt w (wr.setCell ⟨b,i,none⟩ v) N A0 c0 Al Ah cl ch n b (putF F i v) :=
 ⟨h.b2.setOther (show w.heap.size≠b by have:=h.lb;omega) _,h.b3.setOther (show w.heap.size+1≠b by have:=h.lb;omega) _,h.row.set i v,h.lb,h.bl.setCell (p:=⟨b,i,none⟩) (show w.heap.size≤b by have:=h.lb;omega) _⟩
theorem NwAt.other (h:NwAt w wr N A0 c0 Al Ah cl ch n b F) {X:Nat} (hX:w.heap.size+1<X) (hb:b≠X) (i:Nat) (v:Value):NwAt w (wr.setCell ⟨X,i,none⟩ v) N A0 c0 Al Ah cl ch n b F :=
 ⟨h.b2.setOther (show w.heap.size≠X by omega) _,h.b3.setOther (show w.heap.size+1≠X by omega) _,h.row.setOther hb _,h.lb,h.bl.setCell (p:=⟨X,i,none⟩) (show w.heap.size≤X by omega) _⟩
theorem NwAt.lt (h:NwAt w wr N A0 c0 Al Ah cl ch n b F):b<wr.heap.size:=h.row.lt
end
def box0 (N:Nt) (A:Option Addr) (c:Nat):Array Value:=#[.int .i64 N.n,.slice A N.l.length c,.slice none 0 0,.slice none 0 0,.int .i64 0,.string ⟨#[]⟩,.nilFunc,.nilFunc,.slice none 0 0,.slice none 0 0,.slice none 0 0,.string ⟨#[]⟩,.string ⟨#[]⟩,.nilFunc,.nilFunc,.slice none 0 0,.slice none 0 0,.slice none 0 0,.slice none 0 0,.slice none 0 0]
structure KsAt (w wr:World) (N:Nt) (gN c b k:Nat):Prop where
 row:∃ G,wr.rowIs gN 76 (c*3) G∧∀ i (h:i<N.l.length),NdS wr w w.heap.size b G N.l[i] i k
 lo:w.heap.size+1<gN
 hi:gN<b
 le:N.l.length≤c
theorem KsAt.next {w wr w5:World} {N:Nt} {gN c b k:Nat} {A2:Option Addr} {c2:Nat} (hk:k<N.l.length) (h:KsAt w wr N gN c b k) (hbr:b<wr.heap.size) (hb:Below wr.heap.size wr w5) (hrd:RdK w5 wr.heap.size w5.heap.size A2 N.l[k].ins.length (intF N.l[k].ins)) :
  KsAt w (w5.setCell ⟨gN,k*3+2,none⟩ (.slice A2 N.l[k].ins.length c2)) N gN c b (k+1):=by
 obtain ⟨G,hr,hnd⟩:=h.row;have hlt:=hr.lt;have hz:=hb.size;have hhi:=h.hi;have hag:∀ x,b+1≤x→(w5.setCell ⟨gN,k*3+2,none⟩ (.slice A2 N.l[k].ins.length c2)).heap[x]?=w5.heap[x]?:=fun x hx=>Below.heap_setCell w5 ⟨gN,k*3+2,none⟩ _ x (by intro e;simp at e;omega);refine ⟨⟨fun j=>if j=k*3+2 then .slice A2 N.l[k].ins.length c2 else G j,((rowBelow hr hb).set (k*3+2) _).congr fun i _=>rfl,fun i hi=>?_⟩,h.lo,h.hi,h.le⟩;obtain ⟨h1,h2,A1,c1,h3,h4,h5⟩:=hnd i hi;by_cases hik:i=k
 ·subst hik;refine ⟨?_,?_,A2,c2,?_,fun _=>?_,fun hh=>absurd hh (by omega)⟩
  ·show (if i*3=i*3+2 then _ else _)=_
   rw [if_neg (by omega)];exact h1
  ·show (if i*3+1=i*3+2 then _ else _)=_
   rw [if_neg (by omega)];exact h2
  ·show (if i*3+2=i*3+2 then _ else _)=_;rw [if_pos rfl]
  ·rw [size_setCell];exact (hrd.less (by omega)).agree fun x hx _=>hag x hx
 ·refine ⟨?_,?_,A1,c1,?_,fun hh=>?_,fun hh=>h5 (by omega)⟩
  ·show (if i*3=k*3+2 then _ else _)=_
   rw [if_neg (by omega)];exact h1
  ·show (if i*3+1=k*3+2 then _ else _)=_
   rw [if_neg (by omega)];exact h2
  ·show (if i*3+2=k*3+2 then _ else _)=_
   rw [if_neg (by omega)];exact h3
  ·rw [size_setCell];exact (((h4 (by omega)).below hb).more hz).agree fun x hx _=>hag x hx
theorem KsAt.net {w wr:World} {N:Nt} {A:Option Addr} {gN c b:Nat} (h:KsAt w wr N gN c b N.l.length) (hN:NtAt w w.heap.size A N.l):Rof wr w.heap.size wr.heap.size b fun W=>NtAt W W.heap.size (some ⟨gN,0,none⟩) N.l:=fun w' hs hb hn=>by
 obtain ⟨G,hr,hnd⟩:=h.row;obtain ⟨b0,o0,_,_,hcs⟩:=hN hn;have hlo:=h.lo;have hhi:=h.hi;have hle:=h.le;have hr':w'.rowIs gN 76 (c*3) G:=hr.of_block (hb gN (by omega) hr.lt (by omega));refine ⟨gN,0,rfl,hr'.lt,fun i hi=>?_⟩;obtain ⟨h1,h2,A1,c1,h3,h4,_⟩:=hnd i hi;obtain ⟨_,_,_,k1,k2,k3,k4⟩:=hcs i hi;refine ⟨?_,?_,⟨A1,c1,?_,((h4 hi).agree (w':=w') fun x hx1 hx2=>hb x (by omega) hx2 (by omega)).rd.more hs⟩,k1,k2,k3,k4⟩
 ·rw [Nat.zero_add,hr'.cell (by omega),h1]
 ·rw [Nat.zero_add,hr'.cell (by omega),h2]
 ·rw [Nat.zero_add,hr'.cell (by omega),h3]
theorem NaR.made (w:World) (m:Nat) (t:TypeId):NaR (w.alloc (.cells (madeCells #[.string ⟨#[]⟩] m) t)) w.heap.size t m m (List.replicate m 0) :=
 ⟨_,rowMade w (.string ⟨#[]⟩) m t w.heap.size rfl (f:=fun _=>.string ⟨#[]⟩) (fun _ _=>rfl),fun i hi=>by
   unfold natsF;rw [List.getD_eq_getElem?_getD,List.getElem?_replicate,if_pos hi];show Value.string ⟨#[]⟩ = .string (natB 0)
   rw [natB_zero]⟩
theorem PrR.made (w:World) (m:Nat) (t:TypeId):PrR (w.alloc (.cells (madeCells #[.string ⟨#[]⟩,.string ⟨#[]⟩] (m*2)) t)) w.heap.size t (m*2) m (List.replicate m (0,0)) :=
 ⟨_,prsMade w m t w.heap.size rfl,fun i hi=>by
   unfold prsF
   have e:∀ j,(List.replicate m ((0,0):Pr)).getD j (0,0)=(0,0):=fun j=>by
    rw [List.getD_eq_getElem?_getD,List.getElem?_replicate];split <;> rfl
   simp only [e]
   rfl⟩
theorem KsAt.below {w wr w':World} {N:Nt} {gN c b k:Nat} (h:KsAt w wr N gN c b k) (hb:Below wr.heap.size wr w'):KsAt w w' N gN c b k:=by
 obtain ⟨G,hr,hnd⟩:=h.row;refine ⟨⟨G,rowBelow hr hb,fun i hi=>?_⟩,h.lo,h.hi,h.le⟩;obtain ⟨h1,h2,A1,c1,h3,h4,h5⟩:=hnd i hi;exact ⟨h1,h2,A1,c1,h3,fun hh=>((h4 hh).below hb).more hb.size,h5⟩
theorem cloneRats_pr (w:World) (A:Option Addr) (c n:Nat) (L:List Pr) (hn:n≤1000) (hA:Rd w w.heap.size A ((n+1)*2) (prsF L)) :
  Calls Tryz.prog 44 #[.slice A (n+1) c] w fun e w'=>(∃ g c',e = .returned (.slice (some ⟨g,0,none⟩) (n+1) c')∧w.heap.size≤g∧n+1≤c'∧PrR w' g 60 (c'*2) (n+1) L)∧Below w.heap.size w w':=by
 refine (cloneRats_any w A c (n+1) (prsF L) (by omega) (fun i _=>rfl) hA).mono ?_;rintro e w' ⟨A',c',rfl,h,hb⟩;obtain ⟨g,F,rfl,hg,hc,hr,hF⟩:=h (by omega);exact ⟨⟨g,c',rfl,hg,hc,F,hr,hF⟩,hb⟩
theorem cloneOnes_na (w:World) (g n:Nat) (hn:n≤200) (hr:w.rowIs g 54 (n+1) (fun _=>.string (natB 1))) :
  Calls Tryz.prog 49 #[.slice (some ⟨g,0,none⟩) (n+1) (n+1)] w fun e w'=>(∃ g' c',e = .returned (.slice (some ⟨g',0,none⟩) (n+1) c')∧w.heap.size≤g'∧n+1≤c'∧NaR w' g' 54 c' (n+1) (List.replicate (n+1) 1))∧Below w.heap.size w w':=by
 refine (cloneNats_any w (some ⟨g,0,none⟩) (n+1) (n+1) (fun _=>.string (natB 1)) (by omega) (fun i _=>rfl) (fun _=>⟨g,0,rfl,hr.lt,fun i hi=>by rw [Nat.zero_add];exact hr.cell hi⟩)).mono ?_;rintro e w' ⟨A',c',rfl,h,hb⟩;obtain ⟨g',F,rfl,hg,hc,hr,hF⟩:=h (by omega);rw [Nat.mul_one] at hr
 exact ⟨⟨g',c',rfl,hg,hc,F,hr,fun i hi=>by
  rw [hF i hi];unfold natsF
  rw [List.getD_eq_getElem?_getD,List.getElem?_replicate,if_pos hi];rfl⟩,hb⟩
theorem repeat1_any (w:World) (g n:Nat) (hn:n≤128) (hr:w.rowIs g 54 1 (arrF #[.string (natB 1)])) :
  Calls Tryz.prog 46 #[.slice (some ⟨g,0,none⟩) 1 1,.int .i64 ((n:Int)+1)] w fun e w'=>(∃ r,e = .returned (.slice (some ⟨r,0,none⟩) (n+1) (n+1))∧w.heap.size≤r∧w'.rowIs r 54 (n+1) (fun _=>.string (natB 1)))∧Below w.heap.size w w':=by
 refine (repeat_any w g 0 1 (n+1) (by omega) (by omega) hr.lt (hr.cell (by decide))).mono ?_;rintro e w' ⟨r,rfl,h1,h2,h3⟩;exact ⟨⟨r,rfl,h1,h2⟩,h3⟩
structure NqAt (w wr:World) (N:Nt) (A0:Option Addr) (c0:Nat) (Al Ah:Option Addr) (cl ch n b:Nat) (F:Nat→Value) (E:Nat) (P:World→Prop):Prop where
 q:NwAt w wr N A0 c0 Al Ah cl ch n b F
 ro:Rof wr w.heap.size E b P
 bE:b<E
 eU:E≤wr.heap.size
section
variable {w wr w':World} {N:Nt} {A0:Option Addr} {c0:Nat} {Al Ah:Option Addr} {cl ch n b E:Nat} {F:Nat→Value} {P:World→Prop}
theorem NqAt.below (h:NqAt w wr N A0 c0 Al Ah cl ch n b F E P) (hb:Below wr.heap.size wr w'):NqAt w w' N A0 c0 Al Ah cl ch n b F E P :=
 ⟨h.q.below hb,h.ro.below (hb.mono h.eU),h.bE,Nat.le_trans h.eU hb.size⟩
theorem NqAt.set (h:NqAt w wr N A0 c0 Al Ah cl ch n b F E P) (i:Nat) (v:Value):NqAt w (wr.setCell ⟨b,i,none⟩ v) N A0 c0 Al Ah cl ch n b (putF F i v) E P :=
 ⟨h.q.set i v,h.ro.go (Nat.le_of_eq (size_setCell _ _ _).symm) fun x _ _ hx=>Below.heap_setCell _ _ _ _ hx,h.bE,by rw [size_setCell];exact h.eU⟩
theorem NqAt.bl (h:NqAt w wr N A0 c0 Al Ah cl ch n b F E P):Below w.heap.size w wr:=h.q.bl
end
theorem NaR.ones {w:World} {g n:Nat} {t:TypeId} (h:w.rowIs g t (n+1) (fun _=>.string (natB 1))):NaR w g t (n+1) (n+1) (List.replicate (n+1) 1):=⟨_,h,fun i hi=>by
 unfold natsF
 rw [List.getD_eq_getElem?_getD,List.getElem?_replicate,if_pos hi];rfl⟩
theorem _root_.Cs.NaR.put7 {w:World} {g b m n:Nat} {t:TypeId} {L:List Nat} (h:NaR w g t m n L) (hb:g≠b) {v1 v2 v3 v4 v5 v6 v7:Value} :
  NaR (((((((w.setCell ⟨b,11,none⟩ v1).setCell ⟨b,12,none⟩ v2).setCell ⟨b,13,none⟩ v3).setCell ⟨b,14,none⟩ v4).setCell ⟨b,15,none⟩ v5).setCell ⟨b,16,none⟩ v6).setCell ⟨b,17,none⟩ v7) g t m n L :=
 ((((((h.setOther (a:=⟨b,11,none⟩) hb _).setOther (a:=⟨b,12,none⟩) hb _).setOther (a:=⟨b,13,none⟩) hb _).setOther (a:=⟨b,14,none⟩) hb _).setOther (a:=⟨b,15,none⟩) hb _).setOther (a:=⟨b,16,none⟩) hb _).setOther (a:=⟨b,17,none⟩) hb _
theorem _root_.Cs.PrR.put7 {w:World} {g b m n:Nat} {t:TypeId} {L:List Pr} (h:PrR w g t m n L) (hb:g≠b) {v1 v2 v3 v4 v5 v6 v7:Value} :
  PrR (((((((w.setCell ⟨b,11,none⟩ v1).setCell ⟨b,12,none⟩ v2).setCell ⟨b,13,none⟩ v3).setCell ⟨b,14,none⟩ v4).setCell ⟨b,15,none⟩ v5).setCell ⟨b,16,none⟩ v6).setCell ⟨b,17,none⟩ v7) g t m n L :=
 ((((((h.setOther (a:=⟨b,11,none⟩) hb _).setOther (a:=⟨b,12,none⟩) hb _).setOther (a:=⟨b,13,none⟩) hb _).setOther (a:=⟨b,14,none⟩) hb _).setOther (a:=⟨b,15,none⟩) hb _).setOther (a:=⟨b,16,none⟩) hb _).setOther (a:=⟨b,17,none⟩) hb _
theorem twenty {P:Nat→Prop} (h0:P 0) (h1:P 1) (h2:P 2) (h3:P 3) (h4:P 4) (h5:P 5) (h6:P 6) (h7:P 7) (h8:P 8) (h9:P 9) (h10:P 10) (h11:P 11) (h12:P 12) (h13:P 13) (h14:P 14) (h15:P 15) (h16:P 16) (h17:P 17) (h18:P 18) (h19:P 19):∀ i,i<20→P i
 | 0,_=>h0 | 1,_=>h1 | 2,_=>h2 | 3,_=>h3 | 4,_=>h4 | 5,_=>h5 | 6,_=>h6 | 7,_=>h7 | 8,_=>h8 | 9,_=>h9
 | 10,_=>h10 | 11,_=>h11 | 12,_=>h12 | 13,_=>h13 | 14,_=>h14 | 15,_=>h15 | 16,_=>h16 | 17,_=>h17 | 18,_=>h18 | 19,_=>h19
 | _+20,h=>absurd h (by omega)
end Go.Proofs.YtoljkoifgnmbgaaGreatDoor
