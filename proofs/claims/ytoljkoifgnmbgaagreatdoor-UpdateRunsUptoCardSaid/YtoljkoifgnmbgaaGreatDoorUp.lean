import Derived.Test.YtoljkoifgnmbgaaGreatDoorVl
import Derived.Test.YtoljkoifgnmbgaaGreatDoorRB
import Derived.Test.YtoljkoifgnmbgaaGreatDoorV2
import Derived.Test.YtoljkoifgnmbgaaGreatDoorRH
import Derived.Maps.AppendAt
set_option linter.unusedSimpArgs false
set_option linter.unusedVariables false
section
open Go Go.RowKit Cs
namespace Go.Proofs.YtoljkoifgnmbgaaGreatDoor
structure OneAt (w:World) (N:Nt) (A:Option Addr) (c b0:Nat) (W:World):Prop where
 bl:Below w.heap.size w W
 nt:NtAt W W.heap.size A N.l
 rb:W.rowIs b0 24 2 (zE #[.int .i64 N.n,.slice A N.l.length c])
section
variable {w W W':World} {N:Nt} {A:Option Addr} {c b0:Nat}
theorem OneAt.below (h:OneAt w N A c b0 W) (hb:Below W.heap.size W W'):OneAt w N A c b0 W' :=
 ⟨zu h.bl hb h.bl.size,(h.nt.below hb).more hb.size,zh h.rb hb⟩
theorem OneAt.cells (h:OneAt w N A c b0 W):W.cell? ⟨b0,0,none⟩=some (.int .i64 N.n)∧W.cell? ⟨b0,1,none⟩=some (.slice A N.l.length c) :=
 ⟨h.rb.cell (i:=0) (by decide),h.rb.cell (i:=1) (by decide)⟩
theorem oneNew (w:World) (N:Nt) (A:Option Addr) (c:Nat) (hN:NtAt w w.heap.size A N.l):OneAt w N A c w.heap.size (w.alloc (.cells #[.int .i64 N.n,.slice A N.l.length c] 24)) :=
 have hb:=(Below.refl w.heap.size w).alloc (zi _) (.cells #[.int .i64 N.n,.slice A N.l.length c] 24)
 ⟨hb,(hN.below hb).more hb.size,zU w _ _ _ _ rfl rfl⟩
end
abbrev Bx:=Nat×TypeId×Nat×(Nat→Value)
structure Ly (w:World) (E:Nat) (g:Sg) (N:Nt) (n:Nat) (lo hi:List Pr) (tv:Value) (T:List Int) (k:Int) (B:List Bx) (W:World):Prop where
 lv:Lv w E g N n lo hi tv T k W
 bx:∀ b∈B,W.rowIs b.1 b.2.1 b.2.2.1 b.2.2.2∧b.1 ∉ g.all tv
section
variable {w W W':World} {E:Nat} {g:Sg} {N:Nt} {n:Nat} {lo hi:List Pr} {tv:Value} {T:List Int} {k:Int} {B:List Bx}
theorem Ly.allLt (h:Ly w E g N n lo hi tv T k B W):∀ x∈g.all tv,x<W.heap.size:=by
 intro x hx;have hs:=h.lv.ses;unfold Cs.Sg.all at hx;rcases List.mem_append.1 hx with hx | hx
 ·rcases List.mem_cons.1 hx with rfl | hx
  ·exact hs.lt
  ·simp only [Sg.rows,List.mem_cons,List.not_mem_nil,or_false] at hx;rcases hx with rfl | rfl | rfl | rfl | rfl | rfl
   ·exact hs.c1.lt
   ·exact hs.c2.lt
   ·exact hs.c3.lt
   ·exact hs.p1.lt
   ·exact hs.p2.lt
   ·exact hs.p3.lt
 ·exact (hs.tr.lt x (by simpa using hx)).2
theorem Ly.ofLv {lo hi:List Pr} (h:Lv w E g N n lo hi tv T k W):Ly w E g N n lo hi tv T k [] W:=⟨h,fun b hb=>by cases hb⟩
end
end Go.Proofs.YtoljkoifgnmbgaaGreatDoor
end
section
open Go Go.RowKit Cs
namespace Cs
def ji (m:Int) (T:List Int) (l:Int):Int:=if qi l m=true then (if l∈T∨-l∈T then 4 else 0) else 1
def zhm (m:Int) (T:List Int) (l:Int):List Int:=if qi l m=true then (if l∈T∨-l∈T then T else T++[l]) else T
def popE (T:List Int):Int:=if T.length=0 then 8 else 0
def gj (m:Int) (T:List Int) (l:Int):List Int:=if l=0 then T.dropLast else zhm m T l
def yC (m:Int) (L:List Int):List Int:=L.foldl (gj m) []
theorem zl4 (m:Int) (L:List Int) (k:Nat) (hk:k<L.length):yC m (L.take (k+1))=gj m (yC m (L.take k)) (L.getD k 0):=by
 unfold yC;rw [List.take_add_one,List.foldl_append,List.getD_eq_getElem?_getD,List.getElem?_eq_getElem hk];rfl
theorem ziy:∀ (n:Nat) (l:List Nat),l.Nodup→(∀ x∈l,x<n)→l.length≤n
 | 0,l,_,h=>by
   cases l with
   | nil=>simp
   | cons a l=>exact absurd (h a (by simp)) (by omega)
 | n+1,l,hn,h=>by
   have h1:=ziy n (l.erase n) (hn.erase n) (fun x hx=>by
    have h2:=(hn.mem_erase_iff).1 hx;have h3:=h x h2.2;have h4:=h2.1;omega)
   rw [List.length_erase] at h1;split at h1 <;> omega
theorem TOk.len {n:Nat} {T:List Int} (h:TOk n T):T.length≤n:=by
 have h1:=ziy (n+1) (0::T.map Int.natAbs) (List.nodup_cons.2 ⟨fun hm=>by
  obtain ⟨z,hz,e⟩:=List.mem_map.1 hm;have:=(h.rng z hz).1;omega,h.nd⟩) (fun x hx=>by
  rcases List.mem_cons.1 hx with rfl | hx
  ·omega
  ·obtain ⟨z,hz,rfl⟩:=List.mem_map.1 hx;have:=(h.rng z hz).2;omega)
 simp at h1;exact h1
theorem TOk.drop {n:Nat} {T:List Int} (h:TOk n T):TOk n T.dropLast:=by
 rcases List.eq_nil_or_concat T with rfl | ⟨S,l,rfl⟩
 ·exact h
 ·rw [List.concat_eq_append] at h ⊢;rw [List.dropLast_concat];exact h.init
theorem lit_rng {n:Nat} {m l:Int} (hm:m=(n:Int)) (hn:n≤128) (h:qi l m=true):1≤l.natAbs∧l.natAbs≤n:=Go.Proofs.YtoljkoifgnmbgaaGreatDoor.lit_range h hm hn
theorem TOk.push {n:Nat} {m:Int} {T:List Int} {l:Int} (hm:m=(n:Int)) (hn:n≤128) (h:TOk n T):TOk n (zhm m T l):=by
 unfold zhm;split
 ·rename_i hl;obtain ⟨h1,h2⟩:=lit_rng hm hn hl;split
  ·exact h
  ·rename_i hT;exact h.snoc h1 h2 (fun h3=>hT (Or.inl h3)) (fun h3=>hT (Or.inr h3))
 ·exact h
theorem TOk.act {n:Nat} {m:Int} {T:List Int} {l:Int} (hm:m=(n:Int)) (hn:n≤128) (h:TOk n T):TOk n (gj m T l):=by
 unfold gj;split
 ·exact h.drop
 ·exact h.push hm hn
theorem TOk.acts {n:Nat} {m:Int} (hm:m=(n:Int)) (hn:n≤128) (L:List Int):TOk n (yC m L):=by
 have:∀ (L:List Int) T,TOk n T→TOk n (L.foldl (gj m) T):=fun L=>by
  induction L with
  | nil=>intro T h;exact h
  | cons x L ih=>intro T h;exact ih _ (h.act hm hn)
 exact this L [] TOk.nil
end Cs
namespace Go.Proofs.YtoljkoifgnmbgaaGreatDoor
theorem SesOk.at {N:Nt} {n:Nat} {lo hi:List Pr} {S T:List Int} {D:Nat} (h:SesOk N n lo hi S D) (ht:TOk n T):SesOk N n lo hi T D :=
 ⟨h.hv,h.hd,h.hs,h.hn,h.wt,h.hb,ht,by have:=ht.len;have:=yF h.hv h.hn;omega,h.tb⟩
end Go.Proofs.YtoljkoifgnmbgaaGreatDoor
end
section
open Go Go.RowKit Cs
namespace Go.Proofs.YtoljkoifgnmbgaaGreatDoor
section
variable {w W W':World} {E:Nat} {g:Sg} {N:Nt} {n:Nat} {lo hi:List Pr} {tv:Value} {T:List Int} {k:Int} {B:List Bx}
theorem SsAt.other {D X:Nat} {C1 C2 C3:List Nat} {P1 P2 P3:List Pr} (h:SsAt W D E g N n lo hi tv T k C1 C2 C3 P1 P2 P3) (hE:E≤X) (hX:X ∉ g.all tv) (hg:W.grownBy W' (some X)):SsAt W' D E g N n lo hi tv T k C1 C2 C3 P1 P2 P3:=by
 have hb:∀ x,x≠X→x<W.heap.size→W'.heap[x]?=W.heap[x]?:=fun x hx hl=>hg.block x hl (fun e=>hx (by injection e));have hne:∀ x∈g.all tv,x≠X:=fun x hx e=>hX (e▸hx);have hr:∀ x∈g.rows,x<W.heap.size→W'.heap[x]?=W.heap[x]?:=fun x hx hl=>hb x (hne x (by unfold Cs.Sg.all;simp [hx])) hl;refine ⟨h.row.of_block (hb _ (hne _ (by simp [Cs.Sg.all])) h.row.lt),h.ro.go hg.size (fun x h1 h2 _=>hb x (by omega) (Nat.lt_of_lt_of_le h2 h.eU)),h.c1.of_block (hr _ (by simp [Sg.rows]) h.c1.lt),h.c2.of_block (hr _ (by simp [Sg.rows]) h.c2.lt),h.c3.of_block (hr _ (by simp [Sg.rows]) h.c3.lt),
  h.p1.of_block (hr _ (by simp [Sg.rows]) h.p1.lt),h.p2.of_block (hr _ (by simp [Sg.rows]) h.p2.lt),h.p3.of_block (hr _ (by simp [Sg.rows]) h.p3.lt),?_,h.ok,h.tn,Nat.le_trans h.eU hg.size,h.l1,h.l2,h.l3,h.q1,h.q2,h.q3⟩
 exact h.tr.kept hg (by
  cases hq:tv.ownBlock with
  | none=>exact Or.inl rfl
  | some q=>exact Or.inr (fun e=>by
     injection e with e;exact hne q (by unfold Cs.Sg.all;rw [hq];simp) e))
end
end Go.Proofs.YtoljkoifgnmbgaaGreatDoor
end
section
open Go Go.RowKit Cs
namespace Go.Proofs.YtoljkoifgnmbgaaGreatDoor
section
variable {w W W':World} {E:Nat} {g:Sg} {N:Nt} {n:Nat} {lo hi:List Pr} {tv:Value} {T:List Int} {k:Int} {P Q:World→Prop}
theorem Lv.keepOf (h:Lv w E g N n lo hi tv T k W) {tv':Value} {T':List Int} {k':Int} (q:y6 W' w.heap.size E g N n lo hi tv' T' k') (kp:Keep (g.all tv) W W'):Lv w E g N n lo hi tv' T' k' W':=⟨q,h.bl.trans (h.ses.keepBelow kp)⟩
theorem Lv.allLt (h:Lv w E g N n lo hi tv T k W):∀ x∈g.all tv,x<W.heap.size:=(Ly.ofLv h).allLt
theorem all_grow {tv':Value} {m:Nat} (ht:tv'.ownBlock=tv.ownBlock∨∃ X,tv'.ownBlock=some X∧m≤X):∀ x∈g.all tv',x∈g.all tv∨m≤x:=by
 intro x hx;unfold Cs.Sg.all at hx ⊢;rcases List.mem_append.1 hx with h3 | h3
 ·exact Or.inl (List.mem_append_left _ h3)
 ·rcases ht with e | ⟨X,e,hX⟩
  ·rw [e] at h3;exact Or.inl (List.mem_append_right _ h3)
  ·rw [e] at h3;have:x=X:=by simpa [eq_comm] using h3
   exact Or.inr (by omega)
end
end Go.Proofs.YtoljkoifgnmbgaaGreatDoor
end
section
set_option maxRecDepth 100000
set_option maxHeartbeats 4000000
open Go Go.RowKit Cs
namespace Go.Proofs.YtoljkoifgnmbgaaGreatDoor
theorem zeS (w:World) (A:Option Addr) (c:Nat) (T:List Int) (x:Int) (hT:T.length≤1000000) (hA:Rd w w.heap.size A T.length (zJ T)) :
  Calls Tryz.prog 65 #[.slice A T.length c,.int .i64 x] w fun e w'=>e = .returned (.bool (decide (x∈T)))∧Below w.heap.size w w':=by
 go_enter Tryz.func65, Tryz.ntmps65;go_wp2_with fail
 go_loopw [5] (fun t wr=>∃ k:Nat,k≤T.length∧t = .int .i64 (k:Int)∧(∀ j,j<k→T.getD j 0≠x)∧Below w.heap.size w wr) (fun t _=>T.length-(intOf t).toNat)
 case atStart=>exact ⟨0,Nat.zero_le _,rfl,fun _ h=>absurd h (by omega),zA _ _⟩
 case round =>
  obtain ⟨k,hk,rfl,hne,hb⟩:=hrel;have HNE:=za hne;clear hne;by_cases hlt:k<T.length
  ·obtain ⟨b,o,rfl,hbA,hcA⟩:=(hA.below hb) (by omega);have cA0:=hcA k hlt;have i1:(0:Int)≤(k:Int):=by omega
   have i2:(k:Int)<(T.length:Int):=by omega
   have hbA':b<wr.heap.size:=Nat.lt_of_lt_of_le hbA hb.size;obtain ⟨y,hy⟩:∃ y,T.getD k 0=y:=⟨_,rfl⟩;have cA:wr.cell? ⟨b,o+k,none⟩=some (.int .i64 y):=by rw [cA0];unfold zJ;rw [hy]
   have HY:=za hy;clear hcA hy cA0;by_cases hxy:y=x
   ·have HXY:=za hxy;have hxb:(y==x)=true:=by rw [hxy];simp
    have HLT:=za hlt;clear hxy;go_wp2_with fail
    go_ret;have e1:=HXY.out.symm.trans HY.out.symm;have e2:decide (x∈T)=true:=decide_eq_true (by
     rw [e1,List.getD_eq_getElem?_getD,List.getElem?_eq_getElem HLT.out];exact List.getElem_mem HLT.out)
    rw [e2];exact ⟨rfl,hb⟩
   ·have hxb:(y==x)=false:=by simpa using hxy
    have HXY:=za hxy;clear hxy;go_wp2_with fail
    go_roundw
    case rel =>
     refine ⟨k+1,by omega,by go_num,fun j hj=>?_,hb⟩;rcases Nat.lt_or_ge j k with h | h
     ·exact HNE.out j h
     ·obtain rfl:j=k:=by omega
      rw [HY.out];exact HXY.out
    case measure=>simp [intOf];omega
  ·obtain rfl:k=T.length:=by omega
   go_wp2_with fail
   go_ret;have e2:decide (x∈T)=false:=decide_eq_false fun h=>by
    obtain ⟨j,hj,e⟩:=List.mem_iff_getElem.1 h;have:=HNE.out j hj;rw [List.getD_eq_getElem?_getD,List.getElem?_eq_getElem hj] at this;exact this e
   rw [e2];exact ⟨rfl,hb⟩
def rsA (N:Nt) (A:Option Addr) (c:Nat) (x2 x3 x4:Value) (u:Int):Array Value:=#[.int .i64 N.n,.slice A N.l.length c,x2,x3,x4,.int .i64 u]
theorem xV {W:World} {g:Nat} {N:Nt} {A:Option Addr} {c:Nat} {x2 x3 x4:Value} {u:Int} {t:TypeId} (h:W.rowIs g t 6 (zE (rsA N A c x2 x3 x4 u))) (u':Int) :
  (W.setCell ⟨g,5,none⟩ (.int .i64 u')).rowIs g t 6 (zE (rsA N A c x2 x3 x4 u')) :=
 (h.set 5 _).congr fun i hi=>by
  have:i=0∨i=1∨i=2∨i=3∨i=4∨i=5:=by omega
  rcases this with rfl | rfl | rfl | rfl | rfl | rfl <;> rfl
theorem zjS {W:World} {g:Nat} {N:Nt} {A:Option Addr} {c:Nat} {x2 x3 x4:Value} {u:Int} {t:TypeId} (h:W.rowIs g t 6 (zE (rsA N A c x2 x3 x4 u))) (y:Value) :
  (W.setCell ⟨g,4,none⟩ y).rowIs g t 6 (zE (rsA N A c x2 x3 y u)) :=
 (h.set 4 _).congr fun i hi=>by
  have:i=0∨i=1∨i=2∨i=3∨i=4∨i=5:=by omega
  rcases this with rfl | rfl | rfl | rfl | rfl | rfl <;> rfl
structure TchAt (w:World) (g:Nat) (N:Nt) (A:Option Addr) (c:Nat) (x2 x3 x4:Value) (gv:Nat) (u:Int) (W:World):Prop where
 gr:w.grownBy W (some g)
 row:W.rowIs g 104 6 (zE (rsA N A c x2 x3 x4 u))
 vs:Rd W W.heap.size (some ⟨gv,0,none⟩) (N.l.length*2) (zK (own N.l))
 ne:g≠gv
theorem jZ {W:World} {B gv n:Nat} {f:Nat→Value} (h:Rd W B (some ⟨gv,0,none⟩) n f) (i:Nat) (hi:i<n):gv<B∧W.cell? ⟨gv,i,none⟩=some (f i):=by
 obtain ⟨b,o,e,hb,hc⟩:=h (by omega);have e2:gv=b∧0=o:=by
  injection e with e;injection e with e1 e2 _;exact ⟨e1,e2⟩
 have:=hc i hi;rw [← e2.1,← e2.2,Nat.zero_add] at this;exact ⟨by rw [e2.1];exact hb,this⟩
theorem rd_far {W:World} {g i gv n:Nat} {f:Nat→Value} {v:Value} (h:Rd W W.heap.size (some ⟨gv,0,none⟩) n f) (hne:g≠gv):Rd (W.setCell ⟨g,i,none⟩ v) (W.setCell ⟨g,i,none⟩ v).heap.size (some ⟨gv,0,none⟩) n f:=fun hn=>by
 obtain ⟨b,o,e,hb,hc⟩:=h hn;have e2:gv=b:=by injection e with e;injection e
 exact ⟨b,o,e,by rw [zf];exact hb,fun i hi=>(World.cell?_setCell_far _ _ _ _ (by rw [← e2];exact hne)).trans (hc i hi)⟩
theorem TchAt.set {w W:World} {g:Nat} {N:Nt} {A:Option Addr} {c:Nat} {x2 x3 x4:Value} {gv:Nat} {u:Int} (h:TchAt w g N A c x2 x3 x4 gv u W) (u':Int):TchAt w g N A c x2 x3 x4 gv u' (W.setCell ⟨g,5,none⟩ (.int .i64 u')) :=
 ⟨zaN h.gr (Or.inl rfl) _,xV h.row u',rd_far h.vs h.ne,h.ne⟩
theorem TchAt.below {w W W':World} {g:Nat} {N:Nt} {A:Option Addr} {c:Nat} {x2 x3 x4:Value} {gv:Nat} {u:Int} (h:TchAt w g N A c x2 x3 x4 gv u W) (hb:Below W.heap.size W W'):TchAt w g N A c x2 x3 x4 gv u W' :=
 ⟨zey h.gr hb,zh h.row hb,(h.vs.below hb).more hb.size,h.ne⟩
theorem zgy (w:World) (g:Nat) (N:Nt) (A:Option Addr) (c v:Nat) (x2 x3 x4:Value) (u:Int) (hrow:w.rowIs g 104 6 (zE (rsA N A c x2 x3 x4 u))) (hN:NtAt w w.heap.size A N.l) (hv:zC N=true) (h1:1≤v) (h2:v≤128) :
  Calls Tryz.prog 60 #[.pointer (some ⟨g,0,none⟩),.int .i64 (v:Int)] w fun e w'=>e = .returned (.tuple #[])∧w.grownBy w' (some g)∧w'.rowIs g 104 6 (zE (rsA N A c x2 x3 x4 (qY N v:Int))):=by
 obtain ⟨hn0,hn1,hl0,hl1⟩:=qD hv;have hva:=zdR w N A c hN hv;have hin:=fun W s=>zf0 W s v h1 h2;have m1:w.cell? ⟨g,0,none⟩=some (.int .i64 N.n):=hrow.cell (i:=0) (by decide);have m2:w.cell? ⟨g,1,none⟩=some (.slice A N.l.length c):=hrow.cell (i:=1) (by decide);have HVA:=za hva;have HIN:=za hin;have HRW:=za hrow;clear hva hin hrow hN hv;obtain ⟨m,l⟩:=N;simp only at *
 go_enter Tryz.func60, Tryz.ntmps60;go_wp2_with fail
 refine HVA.out.mono ?_;rintro e w1 ⟨gv,cv,rfl,hgv,hrv,hb⟩;have hlt:=HRW.out.lt;have r1:=zh HRW.out hb;have f1:=r1.frozen 5;have c1:w1.cell? ⟨g,5,none⟩=some (.int .i64 u):=r1.cell (i:=5) (by decide);have q0:TchAt w g ⟨m,l⟩ A c x2 x3 x4 gv (((qU (fun j=>((own l).getD j 0).testBit (v-1)) 0:Nat)):Int) (w1.setCell ⟨g,5,none⟩ (.int .i64 0)) :=
  (⟨zey (World.grownBy.refl w _) hb,r1,hrv,by omega⟩:TchAt w g ⟨m,l⟩ A c x2 x3 x4 gv u w1).set 0
 have Q0:=za q0;clear q0 hrv hb r1;go_wp2_with fail
 go_loopw [5] (fun t wr=>∃ k:Nat,k≤l.length∧t = .int .i64 (k:Int)∧TchAt w g ⟨m,l⟩ A c x2 x3 x4 gv (((qU (fun j=>((own l).getD j 0).testBit (v-1)) k:Nat)):Int) wr) (fun t _=>l.length-(intOf t).toNat)
 case atStart=>exact ⟨0,Nat.zero_le _,rfl,Q0.out⟩
 case round =>
  obtain ⟨k,hk,rfl,q⟩:=hrel;by_cases hlt:k<l.length
  ·obtain ⟨hbl,k1⟩:=jZ q.vs (k*2) (by show k*2<l.length*2;omega);obtain ⟨_,k2⟩:=jZ q.vs (k*2+1) (by show k*2+1<l.length*2;omega);obtain ⟨s,hs⟩:∃ s,(own l).getD k 0=s:=⟨_,rfl⟩;have z1:wr.cell? ⟨gv,k*2,none⟩=some (.int .u64 (lo s:Int)):=by rw [k1];unfold zK;rw [if_pos (by omega),show k*2 / 2=k by omega,hs]
   have z2:wr.cell? ⟨gv,k*2+1,none⟩=some (.int .u64 (hi s:Int)):=by rw [k2];unfold zK;rw [if_neg (by omega),show (k*2+1) / 2=k by omega,hs]
   have hsel:qU (fun j=>((own l).getD j 0).testBit (v-1)) (k+1)=qU (fun j=>((own l).getD j 0).testBit (v-1)) k+if s.testBit (v-1)=true then 1 else 0:=by
    show _+(if ((own l).getD k 0).testBit (v-1)=true then 1 else 0)=_;rw [hs]
   have hsl:=zhc (fun j=>((own l).getD j 0).testBit (v-1)) k;obtain ⟨S,hS⟩:∃ S,qU (fun j=>((own l).getD j 0).testBit (v-1)) k=S:=⟨_,rfl⟩;rw [hS] at hsel hsl q;have hin:=fun W=>HIN.out W s;obtain ⟨tb,htb⟩:∃ b,s.testBit (v-1)=b:=⟨_,rfl⟩;simp only [htb] at hin hsel;have HI:=za hin;have HS:=za hsel;have Q:=za q;have i1:(0:Int)≤(k:Int):=by omega
   have i2:(k:Int)<(l.length:Int):=by omega
   have hgl:=hbl;clear hin hsel q k1 k2 hs hS htb;cases tb
   ·go_wp2_with fail
    refine (HI.out _).mono ?_;rintro e w2 ⟨rfl,hb2⟩;have Q2:=za (Q.out.below hb2);clear hb2 z1 z2;go_wp2_with fail
    go_roundw
    case rel=>exact ⟨k+1,hlt,by go_num,by rw [HS.out];exact Q2.out⟩
    case measure=>simp [intOf];omega
   ·go_wp2_with fail
    refine (HI.out _).mono ?_;rintro e w2 ⟨rfl,hb2⟩;have Q2:=za (Q.out.below hb2);have c5:w2.cell? ⟨g,5,none⟩=some (.int .i64 (S:Int)):=Q2.out.row.cell (i:=5) (by decide);have f5:=Q2.out.row.frozen 5;clear hb2 z1 z2;go_wp2_with fail
    go_roundw
    case rel=>exact ⟨k+1,hlt,by go_num,by rw [HS.out];exact Q2.out.set _⟩
    case measure=>simp [intOf];omega
  ·obtain rfl:k=l.length:=by omega
   go_wp2_with fail
   refine bodyPost_end (results_none rfl _ _ _) rfl ?_;exact ⟨rfl,q.gr,q.row⟩
end Go.Proofs.YtoljkoifgnmbgaaGreatDoor
end
