import Derived.Test.YtmhllppjcilllaaGreatDoorHo
import Derived.Laws.OwnMore
import Derived.Maps.AppendAt
import Derived.Test.YtmhllppjcilllaaGreatDoorKp
import Derived.Test.YtmhllppjcilllaaGreatDoorEr
import Derived.Test.YtmhllppjcilllaaGreatDoorQ2
set_option linter.unusedSimpArgs false
set_option linter.unusedVariables false
section
open Go Go.RowKit Cs
namespace Go
theorem jo {kl:Nat→Option Nat} {l:List Nat} {i:Nat} (h:(l.all fun j=>kl j != some i)=true):pP kl l i:=fun j hj=>by
 have:=List.all_eq_true.1 h j hj;simpa using this
theorem gM {w:World} {base:Nat} {e:TypeId} {sz:Nat} {v:Value} {n:Nat} {xs:List Value} (h:w.ownsRow base e sz v n xs):v.ownBlock=zW v:=by
 rcases h.2 with ⟨rfl,_⟩ | ⟨g,cap,cur,rfl,_⟩ <;> rfl
theorem own_loc {w w':World} {base:Nat} {e:TypeId} {sz:Nat} {v:Value} {n:Nat} {xs:List Value} (h:w.ownsRow base e sz v n xs) (hb:∀ b,zW v=some b→w'.heap[b]?=w.heap[b]?):w'.ownsRow base e sz v n xs:=by
 refine ⟨h.1,?_⟩;rcases h.2 with hn | ⟨g,cap,cur,rfl,hg,hgg,rest⟩
 ·exact .inl hn
 ·exact .inr ⟨g,cap,cur,rfl,hg,(hb g rfl).trans hgg,rest⟩
theorem gt {w w':World} {g n:Nat} {t:TypeId} {f:Nat→Value} (h:w.rowIs g t n f) (hb:∀ b,zW (.pointer (some ⟨g,0,none⟩))=some b→w'.heap[b]?=w.heap[b]?):w'.rowIs g t n f:=h.of_block (hb g rfl)
section
variable {al:Nat→Bool} {kl:Nat→Option Nat} {j:Nat} {dv:List Value} {v v':Value} {W W':World}
theorem pX (h:kl j=none) (ha:al j=false):RlO al kl j dv v W W:=⟨fun _=>⟨zy _ _,fun h=>by rw [ha] at h;cases h⟩,fun h'=>absurd h h'⟩
theorem zgl (h:kl j=none) (ha:al j=false) (hb:Below W.heap.size W W'):RlO al kl j dv v W W':=⟨fun _=>⟨hb,fun h=>by rw [ha] at h;cases h⟩,fun h'=>absurd h h'⟩
theorem rl_new (h:kl j=none) (o:Obj) (hv:zW v=some W.heap.size):RlO al kl j dv v W (W.alloc o) :=
 ⟨fun _=>⟨(zy _ _).alloc (zv _) _,fun _ b hb=>by rw [hv] at hb;cases hb;exact ⟨zv _,by simp⟩⟩,fun h'=>absurd h h'⟩
theorem rl_app {base base':Nat} {e:TypeId} {sz n n':Nat} {xs ys:List Value} {v1:Value} (h:kl j≠none) (hd:dv.headD undef=v1) (o1:W.ownsRow base e sz v1 n xs) (t1:W'.ownsRow base' e sz v' n' ys) (t2:W.grownBy W' v1.ownBlock) (t3:v'.ownBlock=v1.ownBlock∨v'.ownBlock=some W.heap.size) :
  RlO al kl j dv v' W W':=by
 refine ⟨fun h'=>absurd h' h,fun _=>?_⟩;rw [hd,← gM o1];refine ⟨t2,fun b hb=>?_⟩;rw [← gM t1] at hb;refine ⟨?_,(t1.lt b hb).2⟩;rcases t3 with h3 | h3
 ·exact Or.inr (h3▸hb)
 ·rw [h3] at hb;cases hb;exact Or.inl (zv _)
theorem zhD (W:World) (g i:Nat) (v:Value):W.grownBy (W.setCell ⟨g,i,none⟩ v) (some g) :=
 ⟨rfl,rfl,rfl,by simp [World.setCell],fun k _ hk=>Below.heap_setCell W ⟨g,i,none⟩ v k (fun e=>hk (by rw [e]))⟩
theorem rl_store {g:Nat} (h:kl j≠none) (hd:dv.headD undef = .pointer (some ⟨g,0,none⟩)) (hv:v = .pointer (some ⟨g,0,none⟩)) (hg:W.grownBy W' (some g)) (hl:g<W'.heap.size):RlO al kl j dv v W W':=by
 refine ⟨fun h'=>absurd h' h,fun _=>?_⟩;rw [hd,hv];exact ⟨hg,fun b hb=>⟨Or.inr hb,by cases hb;exact hl⟩⟩
end
end Go
end
section
open Go Go.RowKit Cs
namespace Go.Proofs.YtmhllppjcilllaaGreatDoor
theorem zdh {W:World} {g g' n n':Nat} {t t':TypeId} {f f':Nat→Value} (h:W.rowIs g t n f) (h':W.rowIs g' t' n' f') (ht:t≠t'):g≠g':=fun e=>by
 subst e;have a:=jt h;rw [jt h'] at a;injection a with a;injection a with _ a;exact ht a.symm
structure WtV (B M:Nat) (L H:List Pr) (v:Value) (g1 c1 g2 c2:Nat) (F1 F2:Nat→Value) (W:World):Prop where
 v:v=yw (some ⟨g1,0,none⟩) (some ⟨g2,0,none⟩) M M c1 c2
 ne:g1≠g2
 b1:B≤g1
 b2:B≤g2
 r1:W.rowIs g1 33 (c1*2) F1
 r2:W.rowIs g2 33 (c2*2) F2
 m1:M≤c1
 m2:M≤c2
 f1:∀ i,i<M*2→F1 i=zB L i
 f2:∀ i,i<M*2→F2 i=zB H i
 o1:W.ownsRow B 33 2 (.slice (some ⟨g1,0,none⟩) M c1) M ((List.range (M*2)).map (zB L))
 o2:W.ownsRow B 33 2 (.slice (some ⟨g2,0,none⟩) M c2) M ((List.range (M*2)).map (zB H))
theorem WtV.below {B M:Nat} {L H:List Pr} {v:Value} {g1 c1 g2 c2:Nat} {F1 F2:Nat→Value} {W W':World} (h:WtV B M L H v g1 c1 g2 c2 F1 F2 W) (hb:Below W.heap.size W W'):WtV B M L H v g1 c1 g2 c2 F1 F2 W' :=
 ⟨h.v,h.ne,h.b1,h.b2,zh h.r1 hb,zh h.r2 hb,h.m1,h.m2,h.f1,h.f2,zcL h.o1 hb,zcL h.o2 hb⟩
theorem WtV.more {B B' M:Nat} {L H:List Pr} {v:Value} {g1 c1 g2 c2:Nat} {F1 F2:Nat→Value} {W:World} (h:WtV B M L H v g1 c1 g2 c2 F1 F2 W) (hB:B'≤B):WtV B' M L H v g1 c1 g2 c2 F1 F2 W :=
 ⟨h.v,h.ne,Nat.le_trans hB h.b1,Nat.le_trans hB h.b2,h.r1,h.r2,h.m1,h.m2,h.f1,h.f2,zdC h.o1 hB,zdC h.o2 hB⟩
theorem AwR.wt {w W:World} {M:Nat} {L H:List Pr} {s1 s2:Value} (h:AwR w M L H s1 s2 W) (hM:0<M):∃ g1 c1 g2 c2 F1 F2,WtV w.heap.size M L H (.agg #[s1,s2]) g1 c1 g2 c2 F1 F2 W:=by
 have o1:=h.o1;have o2:=h.o2;obtain ⟨g1,c1,rfl,b1,m1,F1,r1,f1⟩:=PrOwn.of_own h.o1 hM;obtain ⟨g2,c2,rfl,b2,m2,F2,r2,f2⟩:=PrOwn.of_own h.o2 hM;exact ⟨g1,c1,g2,c2,F1,F2,rfl,fun e=>h.dis g1 rfl (by rw [e];rfl),b1,b2,r1,r2,m1,m2,f1,f2,o1,o2⟩
abbrev qT (b:Nat) (p:Pr):Nat×TypeId×Nat×(Nat→Value):=(b, 33,2,qo p.1 p.2)
abbrev qP (g m:Nat) (L:List Pr):Nat×TypeId×Nat×(Nat→Value):=(g, 33,m*2,zB L)
abbrev yR (b:Nat) (N:Nt) (A:Option Addr) (c:Nat) (Aw:Option Addr) (lw cw:Nat) (At:Option Addr) (lt ct:Nat):Nat×TypeId×Nat×(Nat→Value):=(b, 28,4,zC #[.int .i64 N.n,.slice A N.l.length c,.slice Aw lw cw,.slice At lt ct])
structure WnS (N:Nt) (A:Option Addr) (c b9 b10 g1 c1 g2 c2 M:Nat) (L H:List Pr) (W:World):Prop where
 e0:W.cell? ⟨b9,0,none⟩=some (.int .i64 N.n)
 e1:W.cell? ⟨b9,1,none⟩=some (.slice A N.l.length c)
 e2:W.cell? ⟨b10,0,none⟩=some (.slice (some ⟨g1,0,none⟩) M c1)
 e3:W.cell? ⟨b10,1,none⟩=some (.slice (some ⟨g2,0,none⟩) M c2)
 nt:NtAt W W.heap.size A N.l
 rl:Rd W W.heap.size (some ⟨g1,0,none⟩) (M*2) (zB L)
 rh:Rd W W.heap.size (some ⟨g2,0,none⟩) (M*2) (zB H)
 tb:Tab W
theorem rd_row {W:World} {g n m:Nat} {t:TypeId} {F f:Nat→Value} (h:W.rowIs g t n F) (hm:m≤n) (hf:∀ i,i<m→F i=f i):Rd W W.heap.size (some ⟨g,0,none⟩) m f:=fun _ =>
 ⟨g,0,rfl,h.lt,fun i hi=>by rw [Nat.zero_add,h.cell (i:=i) (by omega),hf i hi]⟩
theorem gK {W:World} {B M c g b n:Nat} {e:TypeId} {xs:List Value} (h:W.ownsRow B e 2 (.slice (some ⟨g,0,none⟩) M c) n xs) (hne:g≠b) (x y:Value):((W.setCell ⟨b,0,none⟩ x).setCell ⟨b,1,none⟩ y).ownsRow B e 2 (.slice (some ⟨g,0,none⟩) M c) n xs:=by
 have hn:(Value.slice (some ⟨g,0,none⟩) M c).ownBlock≠some b:=fun e=>hne (by simpa [Value.ownBlock] using e);exact ownsRow_setCell_other (ownsRow_setCell_other h hn _) hn _
theorem WtV.far {B M:Nat} {L H:List Pr} {v:Value} {g1 c1 g2 c2:Nat} {F1 F2:Nat→Value} {W:World} (h:WtV B M L H v g1 c1 g2 c2 F1 F2 W) {b:Nat} (h1:g1≠b) (h2:g2≠b) (x y:Value):WtV B M L H v g1 c1 g2 c2 F1 F2 ((W.setCell ⟨b,0,none⟩ x).setCell ⟨b,1,none⟩ y) :=
 ⟨h.v,h.ne,h.b1,h.b2,(h.r1.setOther h1 _).setOther h1 _,(h.r2.setOther h2 _).setOther h2 _,h.m1,h.m2,h.f1,h.f2,
   gK h.o1 h1 _ _,gK h.o2 h2 _ _⟩
theorem oZ {B:Nat} {w W:World} (h:Below B w W) {g:Nat} (hg:B≤g) (x y:Value):Below B w ((W.setCell ⟨g,0,none⟩ x).setCell ⟨g,1,none⟩ y):=(h.setCell (p:=⟨g,0,none⟩) hg _).setCell (p:=⟨g,1,none⟩) hg _
theorem wn_of {w V1:World} {N:Nt} {A:Option Addr} {c b9 b10 g1 c1 g2 c2 M B:Nat} {L H:List Pr} {v:Value} {F1 F2:Nat→Value} (hN:NtAt w w.heap.size A N.l) (hT:Tab w) (bl:Below w.heap.size w V1)
  (r9:V1.rowIs b9 24 2 (zC #[.int .i64 N.n,.slice A N.l.length c])) (r10:V1.rowIs b10 39 2 (zC #[.slice (some ⟨g1,0,none⟩) M c1,.slice (some ⟨g2,0,none⟩) M c2])) (hq:WtV B M L H v g1 c1 g2 c2 F1 F2 V1) :
  ∀ W,Below V1.heap.size V1 W→WnS N A c b9 b10 g1 c1 g2 c2 M L H W:=fun W hb=>by
 have b2:=zx bl hb bl.size;have q9:=zh r9 hb;have q10:=zh r10 hb;have hq':=hq.below hb;have m1:=hq'.m1;have m2:=hq'.m2;exact ⟨q9.cell (i:=0) (by decide),q9.cell (i:=1) (by decide),q10.cell (i:=0) (by decide),q10.cell (i:=1) (by decide),(hN.below b2).more b2.size,rd_row hq'.r1 (by omega) hq'.f1,rd_row hq'.r2 (by omega) hq'.f2,hT.below b2⟩
theorem WnS.cells {N:Nt} {A:Option Addr} {c b9 b10 g1 c1 g2 c2 M:Nat} {L H:List Pr} {W:World} (h:WnS N A c b9 b10 g1 c1 g2 c2 M L H W):W.cell? ⟨b9,0,none⟩=some (.int .i64 N.n)∧W.cell? ⟨b9,1,none⟩=some (.slice A N.l.length c)∧W.cell? ⟨b10,0,none⟩=some (.slice (some ⟨g1,0,none⟩) M c1)∧W.cell? ⟨b10,1,none⟩=some (.slice (some ⟨g2,0,none⟩) M c2):=⟨h.e0,h.e1,h.e2,h.e3⟩
theorem zgL {w W:World} {g n:Nat} {t:TypeId} {f f':Nat→Value} {l:List (Nat×TypeId×Nat×(Nat→Value))} (h:Kp w ((g,t,n,f)::l) W) (hf:∀ i,i<n→f i=f' i):Kp w ((g,t,n,f')::l) W :=
 ⟨h.bl,fun r hr=>by
   rcases List.mem_cons.1 hr with rfl | hr
   ·exact (h.row 0 rfl).congr hf
   ·exact h.rows r (List.mem_cons_of_mem _ hr)⟩
theorem xX:(Tryz.prog.info? 3).map (fun i=>(i.zero,i.size,i.bytes))=some (some (.int .i64 0),1,8):=by kernel_rfl
theorem tmA_same {v pk sg u j:Nat} (hu:u=j+1) (h:¬ (u≠v∧pk.testBit j=true)):ql v pk sg u=ql v pk sg (u-1):=by
 subst hu;rw [Nat.add_sub_cancel];show (if _ then _ else _)=_;rw [if_neg h]
theorem ziI {v pk sg u j:Nat} (hu:u=j+1) (h:¬ u=v) (hb:pk.testBit j=true):ql v pk sg u=ql v pk sg (u-1)++[if sg.testBit j then -(u:Int) else (u:Int)]:=by
 subst hu;rw [Nat.add_sub_cancel];show (if _ then _ else _)=_;rw [if_pos ⟨h,hb⟩]
theorem oneI {x:Int} (u:Value) (h:u∈[Value.int .i64 x]):u.oneCell'=true:=by
 simp at h;subst h;rfl
theorem zjh {W:World} {base n:Nat} {e:TypeId} {v:Value} {xs:List Value} {ts:List Int} (h:W.ownsRow base e 1 v n xs) (hx:xs=ts.map fun x=>.int .i64 x) (hn:n=ts.length):∃ At ct,v = .slice At ts.length ct∧Rd W W.heap.size At ts.length (zV ts):=by
 subst hn hx;obtain ⟨a,ct,rfl⟩:=zdU h;refine ⟨a,ct,rfl,fun hpos=>?_⟩;rcases h.2 with ⟨_,h0⟩ | ⟨g,cap,cur,hv,hb,hg,hc,_,hs,ht⟩
 ·omega
 ·simp only [Value.slice.injEq] at hv;obtain ⟨rfl,_,_⟩:=hv;refine ⟨g,0,rfl,(Array.getElem?_eq_some_iff.1 hg).1,fun i hi=>?_⟩;rw [Nat.zero_add];have h1:=h.cells (g:=g) rfl i (.int .i64 (ts.getD i 0)) (by rw [List.getElem?_map,List.getElem?_eq_getElem hi,List.getD_eq_getElem?_getD,List.getElem?_eq_getElem hi];rfl);have hadd:(⟨g,0,none⟩:Addr).add i=⟨g,i,none⟩:=by unfold Addr.add;split <;> simp_all
  rw [hadd] at h1;exact h1
theorem xj {m:Int} {n:Nat} {t:List Int} (hn:m=(n:Int)) (h:n≤128) (ht:jR m t=true):∀ x∈t,-9223372036854775808≤x∧x≤9223372036854775807:=fun x hx=>by
 have:=zf3 ht hn h x hx;omega
end Go.Proofs.YtmhllppjcilllaaGreatDoor
end
section
section
open Go Go.RowKit Cs
namespace Cs
def key (s:Nat):Nat:=sN (fun i=>if s.testBit i then 2^(127-i) else 0) 128
section
variable {a f U V:Nat} {M K:Nat→Prop}
theorem zg8 (x:Nd) (h3:x.kind=3) (T:List Bool):∀ (ks:List Int) (b:Bool),ks.foldl (yW T x) b=(b&&ks.all fun j=>T.getD j.toNat false)
 | [],b=>by simp
 | k::ks,b=>by
   show ks.foldl (yW T x) (yW T x b k)=_;rw [zg8 x h3 T ks,List.all_cons,← Bool.and_assoc];congr 1;unfold yW;rw [if_pos h3]
end
def MdN (N:Nt) (k s:Nat):Prop:=(qz s N.l).getD k false=true
end Cs
end
end
section
open Go Go.RowKit Cs
namespace Cs
def Lane (om:Nat→Nat) (l:List Nd) (b s:Nat):Prop:=∀ x∈l,x.kind=2→s.testBit ((zH x.lit).toNat-1)=(om (zH x.lit).toNat).testBit b
def SepI (om:Nat→Nat) (N:Nt) (k:Nat) (f:Nat→Nat):Prop:=∀ b,b<64→∀ s,Lane om N.l b s→∀ i,i<k→∀ hi:i<N.l.length,(f i).testBit b=(qz s N.l).getD i false∧yC (qz s N.l) N.l[i]≤1
section
variable {om f:Nat→Nat} {N:Nt} {k:Nat}
theorem SepI.zero:SepI om N 0 f:=fun _ _ _ _ i hi=>absurd hi (Nat.not_lt_zero i)
theorem SepI.next (h:SepI om N k f) (w:Nat) (hw:∀ b,b<64→∀ s,Lane om N.l b s→∀ hk:k<N.l.length,w.testBit b=(qz s N.l).getD k false∧yC (qz s N.l) N.l[k]≤1):SepI om N (k+1) (fun i=>if i=k then w else f i):=fun b hb s hs i hi hl=>by
 by_cases he:i=k
 ·subst he;simp only [if_pos];exact hw b hb s hs hl
 ·simp only [if_neg he];exact h b hb s hs i (by omega) hl
theorem SepI.det (h:SepI om N N.l.length f) {b s:Nat} (hb:b<64) (hs:Lane om N.l b s):qQ N s=true:=zhL fun i hi=>(h b hb s hs i hi hi).2
theorem zed (s:Nat) (hk:k<N.l.length) {q:Nat} (hq:q<k):(scan (jm s) [] (N.l.take k)).getD q false=(qz s N.l).getD q false:=by
 unfold qz;rw [pU _ _ _ k q (by omega) hq]
theorem zdM (s:Nat) (hk:k<N.l.length):(qz s N.l).getD k false=N.l[k].ins.foldl (yW (scan (jm s) [] (N.l.take k)) N.l[k]) (qN s N.l[k]):=by
 unfold qz;rw [zii _ _ _ k hk];rfl
theorem zgJ {f g:Int→Bool}:∀ {l:List Int},(∀ j∈l,f j=g j)→l.all f=l.all g
 | [],_=>rfl
 | x::l,h=>by rw [List.all_cons,List.all_cons,h x (List.mem_cons_self ..),zgJ fun j hj=>h j (List.mem_cons_of_mem _ hj)]
theorem zff (T:List Bool) {x:Nd} (h:x.kind≠4):yC T x≤1:=by unfold yC;rw [if_neg h];omega
theorem zgj (hv:zE N=true) (s:Nat) (hk:k<N.l.length) (h3:N.l[k].kind<3):(qz s N.l).getD k false=qN s N.l[k]:=by
 have hin:N.l[k].ins=[]:=by
  rcases zaV (qM hv k hk) with ⟨_,h⟩ | h | h
  ·exact List.length_eq_zero_iff.1 h
  ·omega
  ·omega
 rw [zdM s hk,hin];rfl
theorem sep_zero (hv:zE N=true) (s:Nat) (hk:k<N.l.length) (h:N.l[k].kind=0):(qz s N.l).getD k false=false:=by
 rw [zgj hv s hk (by omega)];unfold qN;rw [h];rfl
theorem sep_one (hv:zE N=true) (s:Nat) (hk:k<N.l.length) (h:N.l[k].kind=1):(qz s N.l).getD k false=true:=by
 rw [zgj hv s hk (by omega)];unfold qN;rw [h];rfl
theorem gj (hv:zE N=true) {b s:Nat} (hk:k<N.l.length) (h:N.l[k].kind=2) (hs:Lane om N.l b s):(qz s N.l).getD k false=((om (zH N.l[k].lit).toNat).testBit b==decide (0<N.l[k].lit)):=by
 rw [zgj hv s hk (by omega),← hs _ (List.getElem_mem hk) h];have hl:=(zaT (qM hv k hk) h).1;have h0:zH N.l[k].lit≠0:=by
  unfold z7 at hl;exact (of_decide_eq_true hl).1
 unfold qN hld;rw [h,decide_eq_true h0];rfl
theorem sep_and (hv:zE N=true) (s:Nat) (hk:k<N.l.length) (h:N.l[k].kind=3):(qz s N.l).getD k false=N.l[k].ins.all fun j=>(qz s N.l).getD j.toNat false:=by
 rw [zdM s hk,zg8 _ h,show qN s N.l[k]=true by unfold qN;rw [h];rfl,Bool.true_and];refine zgJ fun j hj=>?_;obtain ⟨q,rfl,hq⟩:=o0 (qM hv k hk) j hj;rw [Int.toNat_natCast,zed s hk hq]
theorem sep_or (hv:zE N=true) (s:Nat) (hk:k<N.l.length) (h:N.l[k].kind=4):(qz s N.l).getD k false=decide (0<N.l[k].ins.countP fun j=>(qz s N.l).getD j.toNat false)∧yC (qz s N.l) N.l[k]=N.l[k].ins.countP fun j=>(qz s N.l).getD j.toNat false:=by
 refine ⟨?_,by unfold yC;rw [if_pos h]⟩;rw [zdM s hk,zg7 _ (by omega),show qN s N.l[k]=false by unfold qN;rw [h];rfl,Bool.false_or,zfn];congr 2;refine List.countP_congr fun j hj=>?_;obtain ⟨q,rfl,hq⟩:=o0 (qM hv k hk) j hj;rw [Int.toNat_natCast,zed s hk hq]
end
def ones64:Nat:=18446744073709551615
theorem zdW {b:Nat} (hb:b<64):ones64.testBit b=true:=by
 rw [show ones64=2^64-1 from rfl,Nat.testBit_two_pow_sub_one];exact decide_eq_true hb
def AndI (f:Nat→Nat) (l:List Int) (q w:Nat):Prop:=∀ b,b<64→w.testBit b=(l.take q).all fun j=>(f j.toNat).testBit b
def OrI (f:Nat→Nat) (l:List Int) (q w:Nat):Prop:=∀ b,b<64→(l.take q).countP (fun j=>(f j.toNat).testBit b)=b1 (w.testBit b)
section
variable {om f:Nat→Nat} {N:Nt} {k:Nat} {l:List Int} {q w:Nat}
theorem AndI.zero:AndI f l 0 ones64:=fun b hb=>by rw [zdW hb,List.take_zero];rfl
theorem zha (hq:q<l.length):l.take (q+1)=l.take q++[l.getD q 0]:=by
 rw [List.take_succ_eq_append_getElem hq];congr 2;simp [List.getD,hq]
theorem AndI.next (h:AndI f l q w) (hq:q<l.length):AndI f l (q+1) (w &&& f (l.getD q 0).toNat):=fun b hb=>by
 rw [zha hq,List.all_append,Nat.testBit_and,h b hb];simp
theorem OrI.zero:OrI f l 0 0:=fun b hb=>by rw [List.take_zero,Nat.zero_testBit];rfl
theorem OrI.next (h:OrI f l q w) (hq:q<l.length) (h0:w &&& f (l.getD q 0).toNat=0):OrI f l (q+1) (w ||| f (l.getD q 0).toNat):=fun b hb=>by
 have h1:(w.testBit b&&(f (l.getD q 0).toNat).testBit b)=false:=by rw [← Nat.testBit_and,h0,Nat.zero_testBit]
 rw [zha hq,List.countP_append,h b hb,Nat.testBit_or];simp only [List.countP_cons,List.countP_nil,Nat.zero_add];cases hw:w.testBit b <;> cases hf:(f (l.getD q 0).toNat).testBit b <;> simp_all [b1]
theorem AndI.done (hv:zE N=true) (hk:k<N.l.length) (h3:N.l[k].kind=3) (hS:SepI om N k f) (h:AndI f N.l[k].ins N.l[k].ins.length w):SepI om N (k+1) (fun i=>if i=k then w else f i) :=
 hS.next w fun b hb s hs hk'=>by
  refine ⟨?_,zff _ (by omega)⟩;rw [h b hb,List.take_length,sep_and hv s hk h3];refine zgJ fun j hj=>?_;obtain ⟨p,rfl,hp⟩:=o0 (qM hv k hk) j hj;rw [Int.toNat_natCast];exact (hS b hb s hs p hp (by omega)).1
theorem OrI.done (hv:zE N=true) (hk:k<N.l.length) (h4:N.l[k].kind=4) (hS:SepI om N k f) (h:OrI f N.l[k].ins N.l[k].ins.length w):SepI om N (k+1) (fun i=>if i=k then w else f i) :=
 hS.next w fun b hb s hs hk'=>by
  obtain ⟨e1,e2⟩:=sep_or hv s hk h4;have e3:N.l[k].ins.countP (fun j=>(qz s N.l).getD j.toNat false)=b1 (w.testBit b):=by
   have e4:=h b hb;rw [List.take_length] at e4;rw [← e4];refine List.countP_congr fun j hj=>?_;obtain ⟨p,rfl,hp⟩:=o0 (qM hv k hk) j hj;rw [Int.toNat_natCast,(hS b hb s hs p hp (by omega)).1]
  rw [e1,e2,e3];cases w.testBit b <;> exact ⟨rfl,by decide⟩
theorem SepI.leaf0 (hv:zE N=true) (hk:k<N.l.length) (h:N.l[k].kind=0) (hS:SepI om N k f):SepI om N (k+1) (fun i=>if i=k then 0 else f i) :=
 hS.next 0 fun b hb s hs hk'=>⟨by rw [sep_zero hv s hk h,Nat.zero_testBit],zff _ (by omega)⟩
theorem SepI.leaf1 (hv:zE N=true) (hk:k<N.l.length) (h:N.l[k].kind=1) (hS:SepI om N k f):SepI om N (k+1) (fun i=>if i=k then ones64 else f i) :=
 hS.next ones64 fun b hb s hs hk'=>⟨by rw [sep_one hv s hk h,zdW hb],zff _ (by omega)⟩
theorem SepI.pos (hv:zE N=true) (hk:k<N.l.length) (h:N.l[k].kind=2) (hp:0<N.l[k].lit) {y:Nat} (he:om (zH N.l[k].lit).toNat=y) (hS:SepI om N k f):SepI om N (k+1) (fun i=>if i=k then y else f i) :=
 hS.next _ fun b hb s hs hk'=>⟨by rw [gj hv hk h hs,he,decide_eq_true hp];simp,zff _ (by omega)⟩
theorem SepI.neg (hv:zE N=true) (hk:k<N.l.length) (h:N.l[k].kind=2) (hp:N.l[k].lit<0) {y:Nat} (he:om (zH N.l[k].lit).toNat=y) (hy:y<18446744073709551616) (hS:SepI om N k f):SepI om N (k+1) (fun i=>if i=k then 18446744073709551616-(y+1) else f i) :=
 hS.next _ fun b hb s hs hk'=>⟨by
  rw [gj hv hk h hs,he,decide_eq_false (by omega),show (18446744073709551616:Nat)=2^64 from rfl,Nat.testBit_two_pow_sub_succ (by exact hy),decide_eq_true hb];simp,zff _ (by omega)⟩
end
end Cs
end
section
open Go Go.RowKit Cs
namespace Cs
theorem okI_of (f:Nat→Int→Nat):∀ (ks:List Int) (s:Nat),(∀ q,(ks.take q).foldl f s<qu)→yy f s ks=true
 | [],s,_=>rfl
 | k::ks,s,h=>by
   unfold yy;rw [if_pos (show f s k<qu from h 1)];exact okI_of f ks (f s k) fun q=>h (q+1)
theorem okN_of (O:List Nat):∀ (l:List Nd) (acc:List Nat),(∀ k (hk:k<l.length) q,(l[k].ins.take q).foldl (R1.in1 O (scan (R1.step O) acc (l.take k)) l[k]) (R1.start l[k])<qu)→yI O acc l=true
 | [],acc,_=>rfl
 | x::xs,acc,h=>by
   unfold yI;rw [Bool.and_eq_true];exact ⟨okI_of _ _ _ fun q=>h 0 (by simp) q,okN_of O xs _ fun k hk q=>h (k+1) (by simp;omega) q⟩
section
variable {N:Nt} {k:Nat}
theorem own_take (hk:k<N.l.length) {j:Nat} (hj:j<k+1):(own (N.l.take (k+1))).getD j 0=(own N.l).getD j 0:=pU p7 0 N.l (k+1) j hk hj
theorem zjV (s:Nat) (hk:k<N.l.length) {j:Nat} (hj:j<k+1):(qz s (N.l.take (k+1))).getD j false=(qz s N.l).getD j false:=pU (jm s) false N.l (k+1) j hk hj
theorem zfN {α:Type} {f g:α→Int→α}:∀ (ks:List Int) (s:α),(∀ a,∀ j∈ks,f a j=g a j)→ks.foldl f s=ks.foldl g s
 | [],_,_=>rfl
 | x::ks,s,h=>by
   rw [List.foldl_cons,List.foldl_cons,h s x (List.mem_cons_self ..)];exact zfN ks _ fun a j hj=>h a j (List.mem_cons_of_mem _ hj)
theorem ziS {α:Type} (R:Rg α) (hv:zE N=true) {O:List Nat} {m:Nat} (hO:∀ j,j<m→O.getD j 0=(own N.l).getD j 0):∀ k,k≤m→k≤N.l.length→scan (R.step O) [] (N.l.take k)=scan (R.step (own N.l)) [] (N.l.take k)
 | 0,_,_=>rfl
 | k+1,hm,hl=>by
   rw [jY _ _ _ hl,jY _ _ _ hl,ziS R hv hO k (by omega) (by omega)];congr 2;refine zfN _ _ fun a j hj=>?_;obtain ⟨q,rfl,hq⟩:=o0 (qM hv k hl) j hj;unfold Rg.in1;split
   ·rfl
   ·unfold Rg.gap;rw [Int.toNat_natCast,hO q (by omega),hO _ (by rw [yK _ _ _ (by omega)];omega)]
theorem take_vld (hv:zE N=true) (hk:k<N.l.length):zE ⟨N.n,N.l.take (k+1)⟩=true:=by
 obtain ⟨h1,h2,h3,h4⟩:=qR hv;unfold zE at hv ⊢;rw [Bool.and_eq_true] at hv ⊢;refine ⟨decide_eq_true ⟨h1,h2,?_,?_⟩,zcQ N.n N.l (k+1) hv.2⟩ <;> (simp only [List.length_take];omega)
theorem zfm {O O':List Nat}:∀ (ks:List Int) (s:Nat),(∀ j∈ks,O.getD j.toNat 0=O'.getD j.toNat 0)→apart O s ks=apart O' s ks
 | [],_,_=>rfl
 | x::ks,s,h=>by
   unfold apart;rw [h x (List.mem_cons_self ..),zfm ks _ fun j hj=>h j (List.mem_cons_of_mem _ hj)]
theorem zjB (O:List Nat):∀ (l:List Nd),(∀ k (hk:k<l.length),l[k].kind=3→apart O 0 l[k].ins=true)→jj O l=true
 | [],_=>rfl
 | x::xs,h=>by
   have h2:=zjB O xs fun k hk h3=>h (k+1) (by simp;omega) h3;unfold jj;split
   ·rename_i h3;rw [h2,Bool.and_true];exact h 0 (by simp) h3
   ·exact h2
theorem xo (hv:zE N=true) (hd:qc N=true) (hk:k<N.l.length):qc ⟨N.n,N.l.take (k+1)⟩=true:=zjB _ _ fun i hi h3=>by
 simp only [List.length_take] at hi;have hi2:i<N.l.length:=by omega
 have e:(N.l.take (k+1))[i]'(by simp only [List.length_take];omega)=N.l[i]:=List.getElem_take;simp only [e] at h3 ⊢;rw [zfm _ 0 (O':=own N.l) fun j hj=>?_]
 ·exact ze8 (own N.l) N.l i hi2 hd h3
 ·obtain ⟨q,rfl,hq⟩:=o0 (qM hv i hi2) j hj;rw [Int.toNat_natCast,own_take hk (by omega)]
theorem take_det (hv:zE N=true) (s:Nat) (hs:qQ N s=true) (hk:k<N.l.length):qQ ⟨N.n,N.l.take (k+1)⟩ s=true:=zhL fun i hi=>by
 simp only [List.length_take] at hi;have hi2:i<N.l.length:=by omega
 have e:(N.l.take (k+1))[i]'(by simp only [List.length_take];omega)=N.l[i]:=List.getElem_take;simp only [e];unfold qQ at hs;rw [List.all_eq_true] at hs;have h1:=of_decide_eq_true (hs N.l[i] (List.getElem_mem hi2));unfold yC at h1 ⊢;split
 ·rename_i h4;rw [if_pos h4] at h1;rw [List.countP_congr (q:=fun j=>(qz s N.l).getD j.toNat false) fun j hj=>?_]
  ·exact h1
  ·obtain ⟨q,rfl,hq⟩:=o0 (qM hv i hi2) j hj;rw [Int.toNat_natCast,zjV s hk (by omega)]
 ·omega
theorem sum_det (hv:zE N=true) (hd:qc N=true) (hs:∀ s,qQ N s=true) {n:Nat} (hn:N.n=(n:Int)):R1.sum N≤2^n:=by
 have h1:R1.sum N=(RN 0).sum N:=Rv.sum (R:=R1) (S:=RN 0) (r:=Eq) ⟨rfl,rfl,fun _ _ _ _ h1 h2=>by rw [h1,h2];rfl,fun _ _ _ _ h1 h2=>by rw [h1,h2];rfl,
  fun l hl=>by
   show 1=wt 0 l;have:=zb3 hl;unfold wt;rw [if_neg (by omega)],
  fun v h1 h2=>by
   show 2=wt 0 v+wt 0 (-v);unfold wt;rw [if_neg (by omega),if_neg (by omega)]⟩ hv
 rw [h1,cnt_sum hv hd n hn];have h2:sN (mlt N) (2^n)≤sN (fun _=>1) (2^n):=sN_le _ _ _ fun s _=>by
  rw [mlt_ev hv s (hs s)];unfold b1;split <;> omega
 have h3:∀ m,sN (fun _=>1) m=m:=fun m=>by
  induction m with
  | zero=>rfl
  | succ m ih=>rw [zij,ih]
 rw [h3] at h2;exact h2
theorem val_det (hv:zE N=true) (hd:qc N=true) (hs:∀ s,qQ N s=true) {n:Nat} (hn:N.n=(n:Int)) (hk:k<N.l.length):(scan (R1.step (own N.l)) [] (N.l.take (k+1))).getD k 0≤2^n:=by
 have h:=sum_det (take_vld hv hk) (xo hv hd hk) (fun s=>take_det hv s (hs s) hk) hn;have hl:(N.l.take (k+1)).length=k+1:=by simp only [List.length_take];omega
 have e:R1.sum ⟨N.n,N.l.take (k+1)⟩=R1.wide ((scan (R1.step (own (N.l.take (k+1)))) [] (N.l.take (k+1))).getD ((N.l.take (k+1)).length-1) 0) (vl (zY (yh N.n) ((own (N.l.take (k+1))).getD ((N.l.take (k+1)).length-1) 0))):=rfl;rw [e,zgK,hl,Nat.add_sub_cancel,ziS R1 hv (O:=own (N.l.take (k+1))) (m:=k+1) (fun j hj=>own_take hk hj) (k+1) (zv _) hk] at h;exact Nat.le_trans (Nat.le_mul_of_pos_right _ (Nat.two_pow_pos _)) h
theorem val_det' (hv:zE N=true) (hd:qc N=true) (hs:∀ s,qQ N s=true) {n:Nat} (hn:N.n=(n:Int)) (hk:k≤N.l.length) (j:Nat) (hj:j<k):(scan (R1.step (own N.l)) [] (N.l.take k)).getD j 0≤2^n:=by
 have h:=val_det hv hd hs hn (show j<N.l.length by omega);rw [pU _ _ _ (j+1) j (by omega) (by omega)] at h;rwa [pU _ _ _ k j hk hj]
theorem zj2 (B:Nat) (f:Nat→Int→Nat):∀ (ks:List Int) (s e:Nat),(∀ a,∀ j∈ks,f a j≤a*B)→s≤e→ks.foldl f s≤e*B^ks.length
 | [],s,e,_,hs=>by simpa using hs
 | x::ks,s,e,h,hs=>by
   rw [List.foldl_cons,List.length_cons,Nat.pow_succ,Nat.mul_comm (B^_),← Nat.mul_assoc];exact zj2 B f ks _ _ (fun a j hj=>h a j (List.mem_cons_of_mem _ hj)) (Nat.le_trans (h s x (List.mem_cons_self ..)) (Nat.mul_le_mul_right _ hs))
theorem zhH (B:Nat) (f:Nat→Int→Nat):∀ (ks:List Int) (s:Nat),(∀ a,∀ j∈ks,f a j≤a+B)→ks.foldl f s≤s+ks.length*B
 | [],s,_=>by simp
 | x::ks,s,h=>by
   rw [List.foldl_cons,List.length_cons,Nat.succ_mul];have h1:=h s x (List.mem_cons_self ..);have h2:=zhH B f ks (f s x) (fun a j hj=>h a j (List.mem_cons_of_mem _ hj));omega
theorem big_gt {e:Nat} (h:e<4096):2^e<qu:=by
 rw [zfi];exact Nat.pow_lt_pow_right (by decide) (by rw [zdu];exact h)
theorem pm (hv:zE N=true) (hd:qc N=true) (hs:∀ s,qQ N s=true) (h8:N.n≤8) (hi:∀ k (hk:k<N.l.length),N.l[k].ins.length≤40):yA N=true:=by
 obtain ⟨n0,n1,_,_⟩:=qR hv;obtain ⟨n,hn⟩:∃ n:Nat,N.n=n:=⟨N.n.toNat,by omega⟩;have hn8:2^n≤256:=Nat.pow_le_pow_right (by decide) (show n≤8 by omega);refine okN_of _ _ _ fun k hk q=>?_;have hql:(N.l[k].ins.take q).length≤40:=Nat.le_trans (List.length_take_le' _ _) (hi k hk);have hva:∀ j∈N.l[k].ins.take q,(scan (R1.step (own N.l)) [] (N.l.take k)).getD j.toNat 0≤256:=fun j hj=>by
  obtain ⟨p,rfl,hp⟩:=o0 (qM hv k hk) j (List.mem_of_mem_take hj);rw [Int.toNat_natCast];exact Nat.le_trans (val_det' hv hd hs hn (Nat.le_of_lt hk) p hp) hn8
 have hst:R1.start N.l[k]≤1:=by
  unfold Rg.start;split
  ·exact zv _
  ·split
   ·exact zv _
   ·exact Nat.zero_le _
 by_cases h3:N.l[k].kind=1∨N.l[k].kind=3
 ·refine Nat.lt_of_le_of_lt (zj2 256 _ _ _ 1 (fun a j hj=>?_) hst) ?_
  ·unfold Rg.in1;rw [if_pos h3];exact Nat.mul_le_mul_left _ (hva j hj)
  ·rw [Nat.one_mul,show (256:Nat)=2^8 from rfl,← Nat.pow_mul];exact big_gt (by omega)
 ·refine Nat.lt_of_le_of_lt (zhH (2^136) _ _ _ fun a j hj=>?_) ?_
  ·unfold Rg.in1;rw [if_neg h3];refine Nat.add_le_add_left ?_ a;unfold Rg.gap;rw [zgK,show (136:Nat)=8+128 from rfl,Nat.pow_add];exact Nat.mul_le_mul (hva j hj) (Nat.pow_le_pow_right (by decide) (zcr _))
  ·have h2:(N.l[k].ins.take q).length*2^136≤40*2^136:=Nat.mul_le_mul_right _ hql;have h4:1+40*2^136≤2^143:=by decide +kernel
   have h5:=big_gt (e:=143) (by decide);omega
end
end Cs
end
