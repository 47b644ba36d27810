import Derived.Test.YtmhllppjcilllaaGreatDoorS1
import Derived.Test.YtmhllppjcilllaaGreatDoorShort
import Derived.Lib.MinMax
set_option linter.unusedSimpArgs false
set_option linter.unusedVariables false
section
open Go Go.RowKit Cs
namespace Cs
def ev (a:List Nat):Nat:=a.foldr (·+·) 0
def sm (f:Nat→Nat):Nat→Nat
 | 0=>0
 | n+1=>sm f n+f n
end Cs
end
section
open Go Go.RowKit Cs
namespace Cs
theorem ze4 (acc:List Nat) (i:Nat):∀ (ks:List Int) (s:Nat),(ks.foldl (fun s k=>s ||| acc.getD k.toNat 0) s).testBit i=(s.testBit i||ks.any fun k=>(acc.getD k.toNat 0).testBit i)
 | [],s=>by simp
 | k::ks,s=>by
   show (ks.foldl _ (s ||| acc.getD k.toNat 0)).testBit i=_;rw [ze4 acc i ks,Nat.testBit_or,List.any_cons,Bool.or_assoc]
theorem zgv {N:Nt} (hv:zG N=true) (k:Nat) (hk:k<N.l.length) (i:Nat) :
  ((own N.l).getD k 0).testBit i=((zZ 0 (zQ N.l[k].lit)).testBit i||N.l[k].ins.any fun j=>((own N.l).getD j.toNat 0).testBit i):=by
 have h1:(own N.l).getD k 0=yT (scan yT [] (N.l.take k)) N.l[k]:=by unfold own;rw [zhf _ _ _ _ hk]
 rw [h1];show (N.l[k].ins.foldl (fun s j=>s ||| (scan yT [] (N.l.take k)).getD j.toNat 0) (zZ 0 (zQ N.l[k].lit))).testBit i=_;rw [ze4];congr 1;have hin:=Go.Proofs.YtmhllppjcilllaaGreatDoor.formed_ins (jn hv k hk);rw [Bool.eq_iff_iff,List.any_eq_true,List.any_eq_true];have key:∀ j∈N.l[k].ins,(scan yT [] (N.l.take k)).getD j.toNat 0=(own N.l).getD j.toNat 0:=fun j hj=>by
  obtain ⟨a,ha,rfl⟩:=List.getElem_of_mem hj;obtain ⟨m,hm1,hm2⟩:=hin a ha;have:N.l[k].ins[a]=(m:Int):=by rw [← hm1];simp [List.getD,ha]
  rw [this,Int.toNat_natCast];exact zgh yT 0 N.l k m (by omega) hm2
 constructor
 ·rintro ⟨j,hj,h⟩;exact ⟨j,hj,by rw [← key j hj];exact h⟩
 ·rintro ⟨j,hj,h⟩;exact ⟨j,hj,by rw [key j hj];exact h⟩
theorem zeT {N:Nt} (hv:zG N=true) (k:Nat) (hk:k<N.l.length) (j:Int) (hj:j∈N.l[k].ins) (i:Nat) (h:((own N.l).getD j.toNat 0).testBit i=true):((own N.l).getD k 0).testBit i=true:=by
 rw [zgv hv k hk i,Bool.or_eq_true];exact .inr (List.any_eq_true.2 ⟨j,hj,h⟩)
theorem zgB (O:List Nat):∀ (l:List Nd) (k:Nat) (hk:k<l.length),yD O l=true→l[k].kind=3→apart O 0 l[k].ins=true
 | x::xs,0,_,h,h3=>by
   unfold yD at h
   change x.kind=3 at h3
   rw [if_pos h3,Bool.and_eq_true] at h;exact h.1
 | x::xs,k+1,hk,h,h3=>by
   unfold yD at h;have h2:yD O xs=true:=by
    split at h
    ·rw [Bool.and_eq_true] at h;exact h.2
    ·exact h
   exact zgB O xs k (by simpa using hk) h2 h3
end Cs
end
section
open Go Go.RowKit Cs
namespace Cs
theorem zgz {x:Nd} {n before:Int} (h:qk x n before=true) (hn:0≤n):zQ x.lit≤n:=by
 unfold qk at h;split at h
 ·cases h
 ·split at h
  ·simp at h;rw [h.1];exact hn
  ·split at h
   ·simp [qh] at h;exact h.1.2
   ·split at h
    ·simp at h;rw [h];exact hn
    ·cases h
theorem zgP (v:Int) (i:Nat) (h:(zZ 0 v).testBit i=true):(i:Int)+1=v:=by
 unfold zZ at h;split at h
 ·rw [Nat.zero_or,Nat.testBit_two_pow] at h;simp at h;omega
 ·simp at h
theorem zds {N:Nt} (hv:zG N=true):∀ (m k:Nat),k<m→k<N.l.length→∀ i,((own N.l).getD k 0).testBit i=true→(i:Int)<N.n
 | m+1,k,hkm,hk,i,h=>by
   obtain ⟨hn0,hn1,_,_⟩:=qN hv;rw [zgv hv k hk i,Bool.or_eq_true,List.any_eq_true] at h;rcases h with h | ⟨j,hj,h⟩
   ·have h1:=zgP _ _ h;have h2:=zgz (jn hv k hk) hn0;omega
   ·obtain ⟨a,ha,rfl⟩:=List.getElem_of_mem hj;obtain ⟨b,hb1,hb2⟩:=Go.Proofs.YtmhllppjcilllaaGreatDoor.formed_ins (jn hv k hk) a ha;have e:N.l[k].ins[a]=(b:Int):=by rw [← hb1];simp [List.getD,ha]
    rw [e,Int.toNat_natCast] at h;exact zds hv m b (by omega) (by omega) i h
end Cs
namespace Cs
section
variable {α:Type}
def Rg.cut (R:Rg α) (n:Int):Rg α:=⟨R.zero,R.one,R.add,R.mul,fun l=>if qh l n then R.lit l else R.zero,fun v=>if 1≤v∧v≤n then R.both v else R.zero⟩
theorem zf1 {s:Nat} {v:Int} (h:v∈vl s):∃ i:Nat,s.testBit i=true∧v=(i:Int)+1:=by
 rw [zjL] at h;obtain ⟨a,ha,rfl⟩:=List.mem_map.1 h;unfold zgW at ha;obtain ⟨i,hi,rfl⟩:=List.mem_map.1 ha;rw [List.mem_filter] at hi;exact ⟨i,hi.2,by simp⟩
variable (R:Rg α) (n:Int)
theorem zj5:∀ (vs:List Int) (x:α),(∀ v,v∈vs→1≤v∧v≤n)→(R.cut n).wide x vs=R.wide x vs
 | [],x,_=>rfl
 | v::vs,x,h=>by
   have h1:=h v (by simp);show (R.cut n).wide (R.mul x (if 1≤v∧v≤n then R.both v else R.zero)) vs=R.wide (R.mul x (R.both v)) vs;rw [if_pos h1];exact zj5 vs _ fun v hv=>h v (by simp [hv])
theorem od (O:List Nat) (acc:List α) (all k:Nat) (h:∀ i,all.testBit i=true→(i:Int)<n):(R.cut n).gap O acc all k=R.gap O acc all k:=by
 unfold Rg.gap;refine zj5 R n _ _ fun v hv=>?_;obtain ⟨i,hi,rfl⟩:=zf1 hv;rw [p8,Bool.and_eq_true] at hi;have:=h i hi.1;omega
theorem pp (x:Nd) (b:Int) (h:qk x n b=true):(R.cut n).start x=R.start x:=by
 unfold Rg.start;by_cases h2:x.kind=2
 ·rw [if_pos h2,if_pos h2];have hlit:qh x.lit n=true:=by
   rcases zb4 h with ⟨_,h3⟩ | h1 | h1
   ·unfold qk at h;rw [List.length_eq_zero_iff.1 h3] at h;simp [h2] at h;exact h
   ·omega
   ·omega
  show (if qh x.lit n=true then R.lit x.lit else R.zero)=_;rw [if_pos hlit]
 ·rw [if_neg h2,if_neg h2];rfl
theorem zj6 (O:List Nat) (acc:List α) (x:Nd) (h:∀ i,(O.getD acc.length 0).testBit i=true→(i:Int)<n):∀ (ks:List Int) (s:α),ks.foldl ((R.cut n).in1 O acc x) s=ks.foldl (R.in1 O acc x) s
 | [],s=>rfl
 | k::ks,s=>by
   have h1:(R.cut n).in1 O acc x s k=R.in1 O acc x s k:=by
    unfold Rg.in1;split
    ·rfl
    ·show R.add s ((R.cut n).gap O acc (O.getD acc.length 0) k.toNat)=_;rw [od R n O acc _ _ h]
   show ks.foldl _ ((R.cut n).in1 O acc x s k)=ks.foldl _ (R.in1 O acc x s k);rw [h1];exact zj6 O acc x h ks _
theorem oc {N:Nt} (hv:zG N=true):(R.cut N.n).sum N=R.sum N:=by
 have hsc:∀ k,k≤N.l.length→scan ((R.cut N.n).step (own N.l)) [] (N.l.take k)=scan (R.step (own N.l)) [] (N.l.take k):=by
  intro k
  induction k with
  | zero=>intro _;rfl
  | succ k ih =>
    intro hk;have h1:=ih (by omega);rw [jT _ _ k (by omega),jT _ _ k (by omega),h1];congr 2;unfold Rg.step;rw [pp R N.n _ _ (jn hv k (by omega))];refine zj6 R N.n _ _ _ (fun i hi=>?_) _ _;rw [yA _ _ _ (by omega)] at hi;exact zds hv N.l.length k (by omega) (by omega) i hi
 have h2:=hsc N.l.length (zu _);rw [List.take_length] at h2;unfold Rg.sum Rg.all;rw [h2];obtain ⟨hn0,hn1,_,_⟩:=qN hv;refine od R N.n _ _ _ _ fun i hi=>?_;rw [p6] at hi;simp at hi;omega
end
structure Rv {α β:Type} (R:Rg α) (S:Rg β) (n:Int) (r:α→β→Prop):Prop where
 zero:r R.zero S.zero
 one:r R.one S.one
 add:∀ a b c d,r a b→r c d→r (R.add a c) (S.add b d)
 mul:∀ a b c d,r a b→r c d→r (R.mul a c) (S.mul b d)
 lit:∀ l,qh l n=true→r (R.lit l) (S.lit l)
 both:∀ v,1≤v→v≤n→r (R.both v) (S.both v)
theorem Rv.sum {α β:Type} {R:Rg α} {S:Rg β} {r:α→β→Prop} {N:Nt} (h:Rv R S N.n r) (hv:zG N=true):r (R.sum N) (S.sum N):=by
 rw [← oc R hv,← oc S hv];refine Rl.sum (R:=R.cut N.n) (S:=S.cut N.n) (r:=r) ⟨h.zero,h.one,h.add,h.mul,fun l=>?_,fun v=>?_⟩ N
 ·show r (if qh l N.n=true then R.lit l else R.zero) (if qh l N.n=true then S.lit l else S.zero);split
  ·rename_i h1;exact h.lit l h1
  ·exact h.zero
 ·show r (if 1≤v∧v≤N.n then R.both v else R.zero) (if 1≤v∧v≤N.n then S.both v else S.zero);split
  ·rename_i h1;exact h.both v h1.1 h1.2
  ·exact h.zero
end Cs
namespace Cs
structure CR {α:Type} (R:Rg α):Prop where
 addc:∀ a b,R.add a b=R.add b a
 adda:∀ a b c,R.add (R.add a b) c=R.add a (R.add b c)
 mulc:∀ a b,R.mul a b=R.mul b a
 mula:∀ a b c,R.mul (R.mul a b) c=R.mul a (R.mul b c)
 zadd:∀ a,R.add R.zero a=a
 omul:∀ a,R.mul R.one a=a
 zmul:∀ a,R.mul R.zero a=R.zero
 dist:∀ a b c,R.mul a (R.add b c)=R.add (R.mul a b) (R.mul a c)
def Rg.wit {α:Type} (R:Rg α) (W:Int→α):Rg α:=⟨R.zero,R.one,R.add,R.mul,W,fun v=>R.add (W v) (W (-v))⟩
def zX {α:Type} (W:Int→α) (v:Int) (a b:α):Int→α:=fun l=>if l=v then a else if l = -v then b else W l
theorem mem_vl {s:Nat} {i:Nat} (h:i<128):((i:Int)+1∈vl s)↔s.testBit i=true:=by
 constructor
 ·intro hm;obtain ⟨j,hj,e⟩:=zf1 hm;have:i=j:=by omega
  rw [this];exact hj
 ·intro hb;rw [zjL,List.mem_map];refine ⟨i+1,?_,by simp⟩;unfold zgW;exact List.mem_map.2 ⟨i,List.mem_filter.2 ⟨List.mem_range.2 h,hb⟩,rfl⟩
theorem zkq {v n:Int} (h1:1≤v) (h2:v≤n) (hn:n≤128):qh v n=true∧qh (-v) n=true:=by
 unfold qh zQ;constructor <;> refine decide_eq_true ?_ <;> (repeat' split) <;> omega
theorem zbZ {l n:Int} (h:qh l n=true):(1≤l∧l≤n∧l≤128)∨(l≤-1∧-l≤n∧-l≤128):=by
 unfold qh zQ at h;have h:=of_decide_eq_true h
 revert h
 (repeat' split) <;> intro h <;> omega
theorem ziG (s:Nat):(vl s).Nodup:=by
 rw [zjL];unfold zgW;refine List.Pairwise.map (R:=(·≠·)) (S:=(·≠·)) _ (fun a b h e=>h (by omega)) (List.Pairwise.map (R:=(·≠·)) (S:=(·≠·)) _ (fun a b h e=>h (by omega)) (List.Pairwise.filter _ List.nodup_range))
theorem zhN (l:Int) (i:Nat):(zZ 0 (zQ l)).testBit i=decide (zQ l=(i:Int)+1):=by
 have hl:=zdH l;obtain ⟨m,hm⟩:∃ m,zQ l=m:=⟨_,rfl⟩;rw [hm] at hl ⊢;unfold zZ;by_cases h:1≤m∧m≤128
 ·rw [if_pos h,Nat.zero_or,Nat.testBit_two_pow];exact decide_eq_decide.2 (by omega)
 ·rw [if_neg h,Nat.zero_testBit];exact (decide_eq_false (by omega)).symm
section
variable {α:Type} {R:Rg α}
def Ln (R:Rg α) (a b:α) (i:Bool) (p q t:α):Prop:=if i=true then p=R.add (R.mul a q) (R.mul b t) else p=q∧p=t
variable {a b:α}
theorem CR.addz (C:CR R) (a:α):R.add a R.zero=a:=by rw [C.addc,C.zadd]
theorem CR.mulo (C:CR R) (a:α):R.mul a R.one=a:=by rw [C.mulc,C.omul]
theorem CR.mulz (C:CR R) (a:α):R.mul a R.zero=R.zero:=by rw [C.mulc,C.zmul]
theorem CR.tsid (C:CR R) (a b c:α):R.mul (R.add a b) c=R.add (R.mul a c) (R.mul b c):=by rw [C.mulc,C.dist,C.mulc c a,C.mulc c b]
theorem CR.add4 (C:CR R) (a b c d:α):R.add (R.add a b) (R.add c d)=R.add (R.add a c) (R.add b d):=by
 rw [C.adda,C.adda,← C.adda b c d,C.addc b c,C.adda c b d]
theorem Ln.mulR (C:CR R) {i:Bool} {p q t:α} (h:Ln R a b i p q t) (c:α):Ln R a b i (R.mul p c) (R.mul q c) (R.mul t c):=by
 unfold Ln at *
 split
 ·rename_i h0;rw [if_pos h0] at h;rw [h,C.tsid,C.mula,C.mula]
 ·rename_i h0;rw [if_neg h0] at h;exact ⟨by rw [h.1],by rw [h.2]⟩
theorem Ln.mulL (C:CR R) {i:Bool} {p q t:α} (h:Ln R a b i p q t) (c:α):Ln R a b i (R.mul c p) (R.mul c q) (R.mul c t):=by
 rw [C.mulc c p,C.mulc c q,C.mulc c t];exact h.mulR C c
theorem Ln.add (C:CR R) {i:Bool} {p q t p' q' t':α} (h:Ln R a b i p q t) (h':Ln R a b i p' q' t'):Ln R a b i (R.add p p') (R.add q q') (R.add t t'):=by
 unfold Ln at *
 split
 ·rename_i h0;rw [if_pos h0] at h h';rw [h,h',C.add4,C.dist,C.dist]
 ·rename_i h0;rw [if_neg h0] at h h';exact ⟨by rw [h.1,h'.1],by rw [h.2,h'.2]⟩
theorem Ln.zero (C:CR R) (i:Bool):Ln R a b i R.zero R.zero R.zero:=by
 unfold Ln;split
 ·rw [C.mulz,C.mulz,C.zadd]
 ·exact ⟨rfl,rfl⟩
theorem Ln.same (p:α):Ln R a b false p p p:=⟨rfl,rfl⟩
theorem Ln.no {p q t:α} (h:Ln R a b false p q t):p=q∧p=t:=h
theorem Ln.mul (C:CR R) {i j:Bool} {p q t p' q' t':α} (h:Ln R a b i p q t) (h':Ln R a b j p' q' t') (hij:¬ (i=true∧j=true)):Ln R a b (i||j) (R.mul p p') (R.mul q q') (R.mul t t'):=by
 cases j
 ·obtain ⟨rfl,rfl⟩:=h'.no;rw [Bool.or_false];exact h.mulR C _
 ·cases i
  ·obtain ⟨rfl,rfl⟩:=h.no;exact h'.mulL C _
  ·exact absurd ⟨rfl,rfl⟩ hij
variable (W:Int→α) (v:Int)
theorem zbq (a b:α) {u:Int} (h1:u≠v) (h2:u≠-v):zX W v a b u=W u:=by unfold zX;rw [if_neg h1,if_neg h2]
theorem zdT (a b:α):zX W v a b v=a:=by unfold zX;rw [if_pos rfl]
theorem zcW (a b:α) (hv:1≤v):zX W v a b (-v)=b:=by unfold zX;rw [if_neg (by omega),if_pos rfl]
theorem Ln.wide (C:CR R) (hv:1≤v) (vs:List Int):vs.Nodup→(∀ u∈vs,1≤u)→∀ (i:Bool) (p q t:α),Ln R a b i p q t→(v∈vs→i=false) →
  Ln R a b (i||decide (v∈vs)) ((R.wit (zX W v a b)).wide p vs) ((R.wit (zX W v R.one R.zero)).wide q vs) ((R.wit (zX W v R.zero R.one)).wide t vs):=by
 induction vs with
 | nil=>intro _ _ i p q t h _;simpa [Rg.wide] using h
 | cons u us IH =>
   intro hn h1 i p q t h hi;have hn':=List.nodup_cons.1 hn;have hu:=h1 u (by simp);have IH2:=IH hn'.2 (fun w hw=>h1 w (by simp [hw]));show Ln R a b _ ((R.wit (zX W v a b)).wide (R.mul p (R.add (zX W v a b u) (zX W v a b (-u)))) us) ((R.wit (zX W v R.one R.zero)).wide (R.mul q (R.add (zX W v R.one R.zero u) (zX W v R.one R.zero (-u)))) us) ((R.wit (zX W v R.zero R.one)).wide (R.mul t (R.add (zX W v R.zero R.one u) (zX W v R.zero R.one (-u)))) us);by_cases huv:u=v
   ·subst huv;have hf:=hi (by simp);subst hf;obtain ⟨rfl,rfl⟩:=h.no;have h2:Ln R a b true (R.mul p (R.add (zX W u a b u) (zX W u a b (-u)))) (R.mul p (R.add (zX W u R.one R.zero u) (zX W u R.one R.zero (-u)))) (R.mul p (R.add (zX W u R.zero R.one u) (zX W u R.zero R.one (-u)))):=by
     rw [zdT,zdT,zdT,zcW _ _ _ _ hv,zcW _ _ _ _ hv,zcW _ _ _ _ hv,C.addz,C.zadd,C.mulo];unfold Ln;rw [if_pos rfl,C.mulc p,C.tsid]
    have ih:=IH2 true _ _ _ h2 (fun hm=>absurd hm hn'.1);have e:(false||decide (u∈u::us))=(true||decide (u∈us)):=by simp
    rw [e];exact ih
   ·have e1:u≠-v:=by omega
    have e2 : -u≠v:=by omega
    have e3 : -u≠-v:=by omega
    rw [zbq _ _ _ _ huv e1,zbq _ _ _ _ e2 e3,zbq _ _ _ _ huv e1,zbq _ _ _ _ e2 e3,zbq _ _ _ _ huv e1,zbq _ _ _ _ e2 e3];have ih:=IH2 i _ _ _ (h.mulR C (R.add (W u) (W (-u)))) (fun hm=>hi (by simp [hm]));have e:decide (v∈u::us)=decide (v∈us):=by
     refine decide_eq_decide.2 ?_;rw [List.mem_cons];exact ⟨fun h=>h.resolve_left (Ne.symm huv),.inr⟩
    rw [e];exact ih
theorem jy (s:Nat):∀ u∈vl s,1≤u:=fun u hu=>by
 obtain ⟨i,_,rfl⟩:=zf1 hu;omega
theorem gT (C:CR R) (i:Nat) (hi:i<128) (O:List Nat) (P Q T:List α) (all k:Nat) (h:Ln R a b ((O.getD k 0).testBit i) (P.getD k R.zero) (Q.getD k R.zero) (T.getD k R.zero)) (hs:(O.getD k 0).testBit i=true→all.testBit i=true) :
  Ln R a b (all.testBit i) ((R.wit (zX W ((i:Int)+1) a b)).gap O P all k) ((R.wit (zX W ((i:Int)+1) R.one R.zero)).gap O Q all k) ((R.wit (zX W ((i:Int)+1) R.zero R.one)).gap O T all k):=by
 have hm:decide ((i:Int)+1∈vl (zP all (O.getD k 0)))=(all.testBit i && !(O.getD k 0).testBit i):=by
  rw [← p8,Bool.eq_iff_iff,decide_eq_true_iff];exact mem_vl hi
 have:=Ln.wide W ((i:Int)+1) C (by omega) _ (ziG (zP all (O.getD k 0))) (jy _) _ _ _ _ h (fun hmm=>by
  have:=decide_eq_true hmm;rw [hm] at this
  revert this
  cases (O.getD k 0).testBit i <;> simp)
 rw [hm] at this;have e:((O.getD k 0).testBit i||(all.testBit i && !(O.getD k 0).testBit i))=all.testBit i:=by
  revert hs
  cases (O.getD k 0).testBit i <;> cases all.testBit i <;> simp
 rw [e] at this;exact this
theorem gU (C:CR R) (i:Nat) (O:List Nat) (P Q T:List α) (Rp Rq Rt:Rg α) (hp:Rp.mul=R.mul) (hq:Rq.mul=R.mul) (ht:Rt.mul=R.mul) (zp:Rp.zero=R.zero) (zq:Rq.zero=R.zero) (zt:Rt.zero=R.zero) (x:Nd) (h3:x.kind=1∨x.kind=3) :
  ∀ (ks:List Int) (s:Nat) (p q t:α),apart O s ks=true→(∀ k∈ks,Ln R a b ((O.getD k.toNat 0).testBit i) (P.getD k.toNat R.zero) (Q.getD k.toNat R.zero) (T.getD k.toNat R.zero))→Ln R a b (s.testBit i) p q t →
   Ln R a b ((ks.foldl (fun s k=>s ||| O.getD k.toNat 0) s).testBit i) (ks.foldl (Rp.in1 O P x) p) (ks.foldl (Rq.in1 O Q x) q) (ks.foldl (Rt.in1 O T x) t)
 | [],s,p,q,t,_,_,h=>h
 | k::ks,s,p,q,t,ha,hL,h=>by
   unfold apart at ha;split at ha
   ·rename_i h0;have hk:=hL k (by simp);have e1:∀ (S:Rg α) (L:List α) (c:α),S.mul=R.mul→S.zero=R.zero→S.in1 O L x c k=R.mul c (L.getD k.toNat R.zero):=fun S L c hs hz=>by unfold Rg.in1;rw [if_pos h3,hs,hz]
    show Ln R a b ((ks.foldl (fun s k=>s ||| O.getD k.toNat 0) (s ||| O.getD k.toNat 0)).testBit i) (ks.foldl (Rp.in1 O P x) (Rp.in1 O P x p k)) (ks.foldl (Rq.in1 O Q x) (Rq.in1 O Q x q k)) (ks.foldl (Rt.in1 O T x) (Rt.in1 O T x t k));rw [e1 Rp P p hp zp,e1 Rq Q q hq zq,e1 Rt T t ht zt];refine gU C i O P Q T Rp Rq Rt hp hq ht zp zq zt x h3 ks _ _ _ _ ha (fun k' hk'=>hL k' (by simp [hk'])) ?_;rw [Nat.testBit_or];refine h.mul C hk fun hh=>?_;have h2:=congrArg (fun z=>z.testBit i) h0;simp only [Nat.testBit_and,Nat.zero_testBit,hh.1,hh.2,Bool.and_self] at h2;cases h2
   ·cases ha
theorem lin_or (C:CR R) (B:Bool) (O:List Nat) (P Q T:List α) (Rp Rq Rt:Rg α) (hp:Rp.add=R.add) (hq:Rq.add=R.add) (ht:Rt.add=R.add) (x:Nd) (h3:¬ (x.kind=1∨x.kind=3)) :
  ∀ (ks:List Int) (p q t:α),(∀ k∈ks,Ln R a b B (Rp.gap O P (O.getD P.length 0) k.toNat) (Rq.gap O Q (O.getD Q.length 0) k.toNat) (Rt.gap O T (O.getD T.length 0) k.toNat))→Ln R a b B p q t →
   Ln R a b B (ks.foldl (Rp.in1 O P x) p) (ks.foldl (Rq.in1 O Q x) q) (ks.foldl (Rt.in1 O T x) t)
 | [],p,q,t,_,h=>h
 | k::ks,p,q,t,hL,h=>by
   have e1:∀ (S:Rg α) (L:List α) (c:α),S.add=R.add→S.in1 O L x c k=R.add c (S.gap O L (O.getD L.length 0) k.toNat):=fun S L c hs=>by unfold Rg.in1;rw [if_neg h3,hs]
   show Ln R a b B (ks.foldl (Rp.in1 O P x) (Rp.in1 O P x p k)) (ks.foldl (Rq.in1 O Q x) (Rq.in1 O Q x q k)) (ks.foldl (Rt.in1 O T x) (Rt.in1 O T x t k));rw [e1 Rp P p hp,e1 Rq Q q hq,e1 Rt T t ht];exact lin_or C B O P Q T Rp Rq Rt hp hq ht x h3 ks _ _ _ (fun k' hk'=>hL k' (by simp [hk'])) (h.add C (hL k (by simp)))
theorem zfd {x:Nd} {n b:Int} (h:qk x n b=true) (h2:x.kind≠2):x.lit=0:=by
 unfold qk at h;by_cases h1:x.kind=0∨x.kind=1
 ·simp [h1] at h;exact h.2.1
 ·by_cases h3:x.kind=3∨x.kind=4
  ·simp [h1,h2,h3] at h;exact h.2
  ·simp [h1,h2,h3] at h
theorem zfR {x:Nd} {n:Int} {k:Nat} (h:qk x n (k:Int)=true):∀ j∈x.ins,∃ m:Nat,j=(m:Int)∧m<k:=fun j hj=>by
 obtain ⟨a,ha,rfl⟩:=List.getElem_of_mem hj;obtain ⟨m,hm1,hm2⟩:=Go.Proofs.YtmhllppjcilllaaGreatDoor.formed_ins h a ha;exact ⟨m,by rw [← hm1];simp [List.getD,ha],hm2⟩
theorem zbP {x:Nd} {n b:Int} (h:qk x n b=true) (h2:x.kind=2):qh x.lit n=true∧x.ins=[]:=by
 unfold qk at h;simp [h2] at h;exact h.2
theorem lin_step (C:CR R) {N:Nt} (hv:zG N=true) (hd:qt N=true) (i:Nat) (hi:i<128) (k:Nat) (hk:k<N.l.length) (P Q T:List α) (lp:P.length=k) (lq:Q.length=k) (lt:T.length=k)
  (h:∀ j,j<k→Ln R a b (((own N.l).getD j 0).testBit i) (P.getD j R.zero) (Q.getD j R.zero) (T.getD j R.zero)) :
  Ln R a b (((own N.l).getD k 0).testBit i) ((R.wit (zX W ((i:Int)+1) a b)).step (own N.l) P N.l[k]) ((R.wit (zX W ((i:Int)+1) R.one R.zero)).step (own N.l) Q N.l[k]) ((R.wit (zX W ((i:Int)+1) R.zero R.one)).step (own N.l) T N.l[k]):=by
 have hfm:=jn hv k hk;have hmem:=zfR hfm;have hb:=zgv hv k hk i;have hLm:∀ j∈N.l[k].ins,Ln R a b (((own N.l).getD j.toNat 0).testBit i) (P.getD j.toNat R.zero) (Q.getD j.toNat R.zero) (T.getD j.toNat R.zero):=fun j hj=>by
  obtain ⟨m,rfl,hm⟩:=hmem j hj;exact h _ (by simpa using hm)
 by_cases h2:N.l[k].kind=2
 ·obtain ⟨hl,hin⟩:=zbP hfm h2;rw [hin,List.any_nil,Bool.or_false,zhN] at hb;unfold Rg.step;rw [hin,hb];show Ln R a b _ (Rg.start _ _) (Rg.start _ _) (Rg.start _ _);unfold Rg.start;rw [if_pos h2,if_pos h2,if_pos h2];show Ln R a b _ (zX W ((i:Int)+1) a b N.l[k].lit) (zX W ((i:Int)+1) R.one R.zero N.l[k].lit) (zX W ((i:Int)+1) R.zero R.one N.l[k].lit);obtain ⟨hn0,hn1,_,_⟩:=qN hv;have hr:=zbZ hl;obtain ⟨l,hl'⟩:∃ l,N.l[k].lit=l:=⟨_,rfl⟩;rw [hl'] at hl hr ⊢;have hlv:zQ l=if 0<l then l else -l:=by unfold zQ;repeat' split <;> omega
  by_cases hp:l=(i:Int)+1
  ·subst hp;rw [decide_eq_true (by rw [hlv,if_pos (by omega)]),zdT,zdT,zdT];unfold Ln;rw [if_pos rfl,C.mulo,C.mulz,C.addz]
  ·by_cases hm:l = -((i:Int)+1)
   ·subst hm;rw [decide_eq_true (by rw [hlv,if_neg (by omega)];omega),zcW _ _ _ _ (by omega),zcW _ _ _ _ (by omega),zcW _ _ _ _ (by omega)];unfold Ln;rw [if_pos rfl,C.mulo,C.mulz,C.zadd]
   ·rw [decide_eq_false (by rw [hlv];split <;> omega),zbq _ _ _ _ hp hm,zbq _ _ _ _ hp hm,zbq _ _ _ _ hp hm];exact Ln.same _
 ·have hl0:=zfd hfm h2;have hz:(zZ 0 (zQ N.l[k].lit)).testBit i=false:=by rw [zhN,hl0];exact decide_eq_false (by show ¬ (0:Int)=_;omega)
  by_cases h3:N.l[k].kind=1∨N.l[k].kind=3
  ·have hap:apart (own N.l) 0 N.l[k].ins=true:=by
    rcases h3 with h1 | h3
    ·rcases zb4 hfm with ⟨_,h4⟩ | h4 | h4
     ·rw [List.length_eq_zero_iff.1 h4];rfl
     ·omega
     ·omega
    ·exact zgB _ _ k hk hd h3
   have key:=gU (a:=a) (b:=b) C i (own N.l) P Q T (R.wit (zX W ((i:Int)+1) a b)) (R.wit (zX W ((i:Int)+1) R.one R.zero)) (R.wit (zX W ((i:Int)+1) R.zero R.one)) rfl rfl rfl rfl rfl rfl N.l[k] h3 N.l[k].ins 0 R.one R.one R.one hap hLm
    (by rw [Nat.zero_testBit];exact Ln.same _)
   rw [ze4,Nat.zero_testBit,Bool.false_or] at key;rw [hb,hz,Bool.false_or];have e:∀ S:Rg α,S.one=R.one→S.start N.l[k]=R.one:=fun S hS=>by unfold Rg.start;rw [if_neg h2,if_pos h3,hS]
   unfold Rg.step;rw [e (R.wit (zX W ((i:Int)+1) a b)) rfl,e (R.wit (zX W ((i:Int)+1) R.one R.zero)) rfl,e (R.wit (zX W ((i:Int)+1) R.zero R.one)) rfl];exact key
  ·have e:∀ S:Rg α,S.zero=R.zero→S.start N.l[k]=R.zero:=fun S hS=>by unfold Rg.start;rw [if_neg h2,if_neg h3,hS]
   unfold Rg.step;rw [e (R.wit (zX W ((i:Int)+1) a b)) rfl,e (R.wit (zX W ((i:Int)+1) R.one R.zero)) rfl,e (R.wit (zX W ((i:Int)+1) R.zero R.one)) rfl];refine lin_or C _ (own N.l) P Q T (R.wit (zX W ((i:Int)+1) a b)) (R.wit (zX W ((i:Int)+1) R.one R.zero)) (R.wit (zX W ((i:Int)+1) R.zero R.one)) rfl rfl rfl N.l[k] h3 N.l[k].ins _ _ _ (fun j hj=>?_) (Ln.zero C _);rw [lp,lq,lt];refine gT W C i hi (own N.l) P Q T _ _ (hLm j hj) fun hh=>zeT hv k hk j hj i hh
theorem zer {α:Type} (f:List α→Nd→α) (d:α) (xs:List Nd) (k j:Nat) (h:k<xs.length) (hj:j<k):(scan f [] (xs.take (k+1))).getD j d=(scan f [] (xs.take k)).getD j d:=by
 rw [jT _ _ k h,List.getD_eq_getElem?_getD,List.getElem?_append_left (by rw [yA _ _ _ (by omega)];exact hj),← List.getD_eq_getElem?_getD]
theorem gV (C:CR R) {N:Nt} (hv:zG N=true) (hd:qt N=true) (i:Nat) (hi:i<128):∀ (k:Nat),k≤N.l.length→∀ j,j<k →
  Ln R a b (((own N.l).getD j 0).testBit i) ((scan ((R.wit (zX W ((i:Int)+1) a b)).step (own N.l)) [] (N.l.take k)).getD j R.zero) ((scan ((R.wit (zX W ((i:Int)+1) R.one R.zero)).step (own N.l)) [] (N.l.take k)).getD j R.zero) ((scan ((R.wit (zX W ((i:Int)+1) R.zero R.one)).step (own N.l)) [] (N.l.take k)).getD j R.zero)
 | 0,_,j,hj=>absurd hj (by omega)
 | k+1,hk,j,hj=>by
   have ih:=gV C hv hd i hi k (by omega);rcases Nat.lt_or_ge j k with h1 | h1
   ·rw [zer _ _ _ k j (by omega) h1,zer _ _ _ k j (by omega) h1,zer _ _ _ k j (by omega) h1];exact ih j h1
   ·obtain rfl:j=k:=by omega
    rw [jT _ _ j (by omega),jT _ _ j (by omega),jT _ _ j (by omega)];have hg:∀ (L:List α) (c:α),L.length=j→(L++[c]).getD j R.zero=c:=fun L c hL=>by
     rw [List.getD_eq_getElem?_getD,List.getElem?_append_right (by omega),hL,Nat.sub_self];rfl
    rw [hg _ _ (yA _ _ _ (by omega)),hg _ _ (yA _ _ _ (by omega)),hg _ _ (yA _ _ _ (by omega))];exact lin_step W C hv hd i hi j (by omega) _ _ _ (yA _ _ _ (by omega)) (yA _ _ _ (by omega)) (yA _ _ _ (by omega)) ih
theorem lin_sum (C:CR R) {N:Nt} (hv:zG N=true) (hd:qt N=true) (i:Nat) (hi:(i:Int)<N.n) (a b:α) :
  (R.wit (zX W ((i:Int)+1) a b)).sum N=R.add (R.mul a ((R.wit (zX W ((i:Int)+1) R.one R.zero)).sum N)) (R.mul b ((R.wit (zX W ((i:Int)+1) R.zero R.one)).sum N)):=by
 obtain ⟨hn0,hn1,hl0,hl1⟩:=qN hv;have h:=gV (a:=a) (b:=b) W C hv hd i (by omega) N.l.length (zu _) (N.l.length-1) (by omega);rw [List.take_length] at h;have h2:=gT W C i (by omega) (own N.l) _ _ _ (qo N.n) (N.l.length-1) h (fun hb=>by
  have:=zds hv N.l.length (N.l.length-1) (by omega) (by omega) i hb;rw [p6];simp;omega)
 rw [show (qo N.n).testBit i=true by rw [p6];simp;omega] at h2;exact h2
end
end Cs
namespace Cs
section
variable {α:Type} (R:Rg α)
def Rg.sumTo (f:Nat→α):Nat→α
 | 0=>R.zero
 | m+1=>R.add (Rg.sumTo f m) (f m)
def Rg.ind (s:Nat):Int→α:=fun l=>if 0<l then (if s.testBit (l-1).toNat then R.one else R.zero) else (if s.testBit (-l-1).toNat then R.zero else R.one)
def Rg.mix (W:Int→α) (k s:Nat):Int→α:=fun l=>if 1≤l.natAbs∧l.natAbs≤k then R.ind s l else W l
def Rg.term (W:Int→α):Nat→Nat→α
 | 0,_=>R.one
 | k+1,s=>R.mul (Rg.term W k s) (if s.testBit k then W ((k:Int)+1) else W (-((k:Int)+1)))
def Rg.mult (N:Nt) (s:Nat):α:=(R.wit (R.ind s)).sum N
variable {R}
theorem zcc (f g:Nat→α):∀ m,(∀ i,i<m→f i=g i)→R.sumTo f m=R.sumTo g m
 | 0,_=>rfl
 | m+1,h=>by
   show R.add (R.sumTo f m) (f m)=R.add (R.sumTo g m) (g m);rw [zcc f g m fun i hi=>h i (by omega),h m (by omega)]
theorem zf7 (C:CR R) (f:Nat→α) (m:Nat):∀ n,R.sumTo f (m+n)=R.add (R.sumTo f m) (R.sumTo (fun i=>f (m+i)) n)
 | 0=>(C.addz _).symm
 | n+1=>by
   show R.add (R.sumTo f (m+n)) (f (m+n))=R.add _ (R.add _ _);rw [zf7 C f m n,C.adda]
theorem zeH (C:CR R) (f g:Nat→α):∀ m,R.sumTo (fun i=>R.add (f i) (g i)) m=R.add (R.sumTo f m) (R.sumTo g m)
 | 0=>(C.zadd _).symm
 | m+1=>by
   show R.add (R.sumTo _ m) _=_;rw [zeH C f g m];exact C.add4 _ _ _ _
theorem xy (C:CR R) (f:Nat→α) (k:Nat):R.sumTo f (2^(k+1))=R.sumTo (fun s=>R.add (f s) (f (s+2^k))) (2^k):=by
 rw [show 2^(k+1)=2^k+2^k by rw [Nat.pow_succ];omega,zf7 C,← zeH C];exact zcc _ _ _ fun i _=>by rw [Nat.add_comm (2^k) i]
theorem zjF {s k:Nat} (h:s<2^k):(s+2^k).testBit k=true∧s.testBit k=false∧∀ i,i<k→(s+2^k).testBit i=s.testBit i:=by
 refine ⟨?_,Nat.testBit_lt_two_pow h,fun i hi=>?_⟩
 ·rw [Nat.add_comm,Nat.testBit_two_pow_add_eq,Nat.testBit_lt_two_pow h];rfl
 ·rw [Nat.add_comm,Nat.testBit_two_pow_add_gt hi]
theorem zf3 (W:Int→α):∀ (k s t:Nat),(∀ i,i<k→s.testBit i=t.testBit i)→R.term W k s=R.term W k t
 | 0,_,_,_=>rfl
 | k+1,s,t,h=>by
   show R.mul (R.term W k s) _=R.mul (R.term W k t) _;rw [zf3 W k s t fun i hi=>h i (by omega),h k (by omega)]
theorem x8 (s t k:Nat) (l:Int) (h:∀ i,i<k→s.testBit i=t.testBit i) (h1:1≤l.natAbs) (h2:l.natAbs≤k):R.ind s l=R.ind t l:=by
 unfold Rg.ind;by_cases h0:0<l
 ·rw [if_pos h0,if_pos h0,h (l-1).toNat (by omega)]
 ·rw [if_neg h0,if_neg h0,h (-l-1).toNat (by omega)]
theorem zd6 (W V:Int→α) (h:∀ l,W l=V l):R.wit W=R.wit V:=by rw [show W=V from funext h]
theorem mix_step (C:CR R) {N:Nt} (hv:zG N=true) (hd:qt N=true) (W:Int→α) (k s:Nat) (hk:(k:Int)<N.n) (hs:s<2^k) :
  (R.wit (R.mix W k s)).sum N=R.add (R.mul (W (-((k:Int)+1))) ((R.wit (R.mix W (k+1) s)).sum N)) (R.mul (W ((k:Int)+1)) ((R.wit (R.mix W (k+1) (s+2^k))).sum N)):=by
 obtain ⟨b1,b2,b3⟩:=zjF hs;have h:=lin_sum (R.mix W k s) C hv hd k hk (W ((k:Int)+1)) (W (-((k:Int)+1)));have e0:R.wit (zX (R.mix W k s) ((k:Int)+1) (W ((k:Int)+1)) (W (-((k:Int)+1))))=R.wit (R.mix W k s):=zd6 _ _ fun l=>by
  unfold zX Rg.mix;by_cases h1:l=(k:Int)+1
  ·rw [if_pos h1,if_neg (by omega),h1]
  ·by_cases h2:l = -((k:Int)+1)
   ·rw [if_neg h1,if_pos h2,if_neg (by omega),h2]
   ·rw [if_neg h1,if_neg h2]
 have e1:R.wit (zX (R.mix W k s) ((k:Int)+1) R.one R.zero)=R.wit (R.mix W (k+1) (s+2^k)):=zd6 _ _ fun l=>by
  unfold zX Rg.mix;by_cases h1:l=(k:Int)+1
  ·rw [if_pos h1,if_pos (by omega)];unfold Rg.ind;rw [if_pos (by omega),show (l-1).toNat=k by omega,b1];rfl
  ·by_cases h2:l = -((k:Int)+1)
   ·rw [if_neg h1,if_pos h2,if_pos (by omega)];unfold Rg.ind;rw [if_neg (by omega),show (-l-1).toNat=k by omega,b1];rfl
   ·rw [if_neg h1,if_neg h2];by_cases h3:1≤l.natAbs∧l.natAbs≤k
    ·rw [if_pos h3,if_pos (by omega)];exact x8 _ _ k l (fun i hi=>(b3 i hi).symm) h3.1 h3.2
    ·rw [if_neg h3,if_neg (by omega)]
 have e2:R.wit (zX (R.mix W k s) ((k:Int)+1) R.zero R.one)=R.wit (R.mix W (k+1) s):=zd6 _ _ fun l=>by
  unfold zX Rg.mix;by_cases h1:l=(k:Int)+1
  ·rw [if_pos h1,if_pos (by omega)];unfold Rg.ind;rw [if_pos (by omega),show (l-1).toNat=k by omega,b2];rfl
  ·by_cases h2:l = -((k:Int)+1)
   ·rw [if_neg h1,if_pos h2,if_pos (by omega)];unfold Rg.ind;rw [if_neg (by omega),show (-l-1).toNat=k by omega,b2];rfl
   ·rw [if_neg h1,if_neg h2];by_cases h3:1≤l.natAbs∧l.natAbs≤k
    ·rw [if_pos h3,if_pos (by omega)]
    ·rw [if_neg h3,if_neg (by omega)]
 rw [e0,e1,e2] at h;rw [h,C.addc]
theorem zhC (C:CR R) {N:Nt} (hv:zG N=true) (hd:qt N=true) (W:Int→α):∀ k:Nat,(k:Int)≤N.n →
  (R.wit W).sum N=R.sumTo (fun s=>R.mul (R.term W k s) ((R.wit (R.mix W k s)).sum N)) (2^k)
 | 0,_=>by
   have e:R.wit (R.mix W 0 0)=R.wit W:=zd6 _ _ fun l=>by unfold Rg.mix;rw [if_neg (by omega)]
   show _=R.add R.zero (R.mul R.one ((R.wit (R.mix W 0 0)).sum N));rw [C.zadd,C.omul,e]
 | k+1,hk=>by
   rw [zhC C hv hd W k (by omega),xy C];refine zcc _ _ _ fun s hs=>?_;obtain ⟨b1,b2,b3⟩:=zjF hs;have t1:R.term W (k+1) s=R.mul (R.term W k s) (W (-((k:Int)+1))):=by
    show R.mul _ (if s.testBit k then _ else _)=_;rw [b2];rfl
   have t2:R.term W (k+1) (s+2^k)=R.mul (R.term W k s) (W ((k:Int)+1)):=by
    show R.mul (R.term W k (s+2^k)) (if (s+2^k).testBit k then _ else _)=_;rw [b1,zf3 W k (s+2^k) s b3];rfl
   show R.mul (R.term W k s) _=R.add (R.mul (R.term W (k+1) s) _) (R.mul (R.term W (k+1) (s+2^k)) _);rw [mix_step C hv hd W k s (by omega) hs,t1,t2,C.dist,C.mula,C.mula]
theorem wit_sum {N:Nt} (hv:zG N=true) (W V:Int→α) (h:∀ l,qh l N.n=true→W l=V l):(R.wit W).sum N=(R.wit V).sum N :=
 Rv.sum (r:=Eq) ⟨rfl,rfl,fun a b c d h1 h2=>by rw [h1,h2];rfl,fun a b c d h1 h2=>by rw [h1,h2];rfl,h,fun v h1 h2=>by
  obtain ⟨h3,h4⟩:=zkq h1 h2 (qN hv).2.1;show R.add _ _=R.add _ _;rw [h _ h3,h _ h4]⟩ hv
theorem jH (C:CR R) {N:Nt} (hv:zG N=true) (hd:qt N=true) (W:Int→α) (n:Nat) (hn:N.n=(n:Int)) :
  (R.wit W).sum N=R.sumTo (fun s=>R.mul (R.term W n s) (R.mult N s)) (2^n):=by
 rw [zhC C hv hd W n (by omega)];refine zcc _ _ _ fun s hs=>?_;congr 1;refine wit_sum hv _ _ fun l hl=>?_;have:=zbZ hl;unfold Rg.mix;rw [if_pos (by omega)]
end
end Cs
end
