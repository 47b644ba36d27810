import Derived.Test.YtoljkoifgnmbgaaGreatDoorDw
import Derived.Test.YtoljkoifgnmbgaaGreatDoorDs
import Derived.Test.YtoljkoifgnmbgaaGreatDoorQ2
import Derived.Test.YtoljkoifgnmbgaaGreatDoorN4
import Derived.WalkMore
import Derived.Test.YtoljkoifgnmbgaaGreatDoorZa
set_option linter.unusedSimpArgs false
set_option linter.unusedVariables false
section
section
open Go Go.RowKit Cs
namespace Cs
theorem zfk {N:Nt} (h:qz N=0):zC N=true:=by
 unfold qz at h;cases hv:zC N
 ·rw [hv] at h;simp at h
 ·rfl
end Cs
end
end
section
set_option maxRecDepth 100000
set_option maxHeartbeats 400000
section
open Go Go.RowKit Cs
namespace Go.Proofs.YtoljkoifgnmbgaaGreatDoor
def xj:List Nd→Nat
 | []=>0
 | x::xs=>x.ins.length+xj xs
theorem zi5 (x:Nd):∀ xs:List Nd,xj (xs++[x])=xj xs+x.ins.length
 | []=>by simp [xj]
 | y::ys=>by simp only [List.cons_append,xj,zi5 x ys];omega
def jk (N:Nt):Bool:=decide (N.l.length≤60)&&decide (xj N.l≤300)
theorem few_any (w:World) (N:Nt) (A:Option Addr) (c:Nat) (hlen:N.l.length≤140737488355328) (hN:NtAt w w.heap.size A N.l) :
  Calls Tryz.prog 12 #[ql N A c] w fun e w'=>e = .returned (.bool (jk N))∧Below w.heap.size w w':=by
 obtain ⟨n,l⟩:=N;simp only at hlen hN;have hbl:Below w.heap.size w (w.alloc (.cells #[.int .i64 n,.slice A l.length c] 24)):=(zA _ _).alloc (zi _) _;have hN':=hN.below hbl;have hf:jk ⟨n,l⟩=(decide (l.length≤60)&&decide (xj l≤300)):=rfl;obtain ⟨F,hF⟩:∃ F,jk ⟨n,l⟩=F:=⟨_,rfl⟩;rw [hF] at hf ⊢;have HF:=za hf;clear hf hN hF;go_enter Tryz.func12, Tryz.ntmps12;go_wp2
 go_loop [3,4] (fun s t=>∃ (k:Nat) (j:Int),k≤l.length∧t = .int .i64 k∧s = .int .i64 j∧Hid (l.length≤60→j=(xj (l.take k):Int)∧j≤140737488355328*k)) (fun _ t=>l.length-(intOf t).toNat)
 case atStart=>exact ⟨0,0,by omega,rfl,rfl,fun _=>⟨rfl,by omega⟩⟩
 case round =>
  obtain ⟨k,j,hk,rfl,rfl,HJ⟩:=hrel;by_cases hlt:k<l.length
  ·obtain ⟨b,o,rfl,hbB,hcs⟩:=hN' (by omega);obtain ⟨hk1,hk2,⟨A',c',hk3,hrd⟩,hr1,hr2,hr3,hr4⟩:=hcs k hlt;have ht:l.take (k+1)=l.take k++[l[k]]:=List.take_succ_eq_append_getElem hlt;have hsn:=zi5 l[k] (l.take k);rw [← ht] at hsn;obtain ⟨x,hx⟩:∃ x,l[k]=x:=⟨_,rfl⟩;rw [hx] at hk3 hr4 hsn;have HSN:=za hsn;clear ht hx hsn hk1 hk2 hrd hr1 hr2 hr3 hcs hN';go_wp2
   go_round
   case rel =>
    refine ⟨k+1,_,by omega,by go_num,rfl,fun h=>?_⟩;obtain ⟨q1,q2⟩:=HJ.out h;have hw:wrap64 (j+(x.ins.length:Int))=j+(x.ins.length:Int):=by unfold wrap64;omega
    refine ⟨?_,?_⟩
    ·first | (rw [hw,HSN.out];omega) | (rw [HSN.out];omega)
    ·first | (rw [hw];omega) | omega
   case measure=>simp [intOf];omega
  ·obtain rfl:k=l.length:=by omega
   have hj:=HJ.out;rw [List.take_length] at hj;have HJ2:=za hj;clear hlt hj hN';by_cases h60:l.length≤60
   ·have h:=(HJ2.out h60).1;have HJ3:=za h;have hf2:=HF.out;rw [decide_eq_true h60,Bool.true_and] at hf2;have e:decide (xj l≤300)=decide (j≤300):=by rw [HJ3.out,Bool.eq_iff_iff];simp;omega
    rw [e] at hf2;have HF2:=za hf2;have d6:decide ((l.length:Int)≤60)=true:=decide_eq_true (by omega);clear h hf2 e;go_wp2;go_ret;exact ⟨by rw [HF2.out];try rfl,hbl⟩
   ·have hf2:=HF.out;rw [decide_eq_false h60,Bool.false_and] at hf2;have HF2:=za hf2;have d6:decide ((l.length:Int)≤60)=false:=decide_eq_false (by omega);clear hf2;go_wp2;go_ret;exact ⟨by rw [HF2.out];try rfl,hbl⟩
theorem few_ins {N:Nt} (h:jk N=true):∀ k (hk:k<N.l.length),N.l[k].ins.length≤1000000:=by
 have h2:xj N.l≤300:=by unfold jk at h;simp at h;exact h.2
 have:∀ (l:List Nd) k (hk:k<l.length),l[k].ins.length≤xj l:=fun l=>by
  induction l with
  | nil=>intro k hk;simp at hk
  | cons x xs ih =>
    intro k hk;cases k with
    | zero=>show x.ins.length≤x.ins.length+xj xs;omega
    | succ k =>
      have:=ih k (by simpa using hk);have e:(x::xs)[k+1]=xs[k]'(by simpa using hk):=rfl;rw [e];show _≤x.ins.length+xj xs;omega
 intro k hk;exact Nat.le_trans (this N.l k hk) (by omega)
end Go.Proofs.YtoljkoifgnmbgaaGreatDoor
end
section
open Go Go.RowKit Cs
namespace Cs
def chpN:Nt:=⟨2,[⟨2,1,[]⟩,⟨2,-1,[]⟩,⟨2,2,[]⟩,⟨3,0,[1,2]⟩,⟨4,0,[0,3]⟩]⟩
def oZ (b3 b4:Nat):Array Value:=#[.int .i64 2,.int .i64 1,.slice none 0 0,.int .i64 2,.int .i64 (-1),.slice none 0 0,.int .i64 2,.int .i64 2,.slice none 0 0,.int .i64 3,.int .i64 0,.slice (some ⟨b3,0,none⟩) 2 2,.int .i64 4,.int .i64 0,.slice (some ⟨b4,0,none⟩) 2 2]
theorem chpN_at {w:World} {B g b3 b4:Nat} {t:TypeId} {s:TypeId} (hg:g<B) (h3:b3<B) (r3:w.rowIs b3 s 2 (zE #[.int .i64 1,.int .i64 2])) (h4:b4<B) (r4:w.rowIs b4 s 2 (zE #[.int .i64 0,.int .i64 3])) (hr:w.rowIs g t 15 (zE (oZ b3 b4))):NtAt w B (some ⟨g,0,none⟩) chpN.l:=fun _=>by
 refine ⟨g,0,rfl,hg,fun i hi=>?_⟩
 match i,hi with
 | 0,_=>exact ⟨hr.cell (i:=0) (by decide),hr.cell (i:=1) (by decide),⟨none,0,hr.cell (i:=2) (by decide),Rd.zero _ _ _ _⟩,(show qg (2) by unfold qg;decide),(show qg (1) by unfold qg;decide),(show ∀ i∈([]:List Int),qg i by unfold qg;decide),(show ([]:List Int).length≤140737488355328 by decide)⟩
 | 1,_=>exact ⟨hr.cell (i:=3) (by decide),hr.cell (i:=4) (by decide),⟨none,0,hr.cell (i:=5) (by decide),Rd.zero _ _ _ _⟩,(show qg (2) by unfold qg;decide),(show qg (-1) by unfold qg;decide),(show ∀ i∈([]:List Int),qg i by unfold qg;decide),(show ([]:List Int).length≤140737488355328 by decide)⟩
 | 2,_=>exact ⟨hr.cell (i:=6) (by decide),hr.cell (i:=7) (by decide),⟨none,0,hr.cell (i:=8) (by decide),Rd.zero _ _ _ _⟩,(show qg (2) by unfold qg;decide),(show qg (2) by unfold qg;decide),(show ∀ i∈([]:List Int),qg i by unfold qg;decide),(show ([]:List Int).length≤140737488355328 by decide)⟩
 | 3,_=>exact ⟨hr.cell (i:=9) (by decide),hr.cell (i:=10) (by decide),⟨some ⟨b3,0,none⟩,2,hr.cell (i:=11) (by decide),Rd.of_row (r3.congr fun j hj=>by
    match j,hj with
    | 0,_=>rfl
    | 1,_=>rfl
    ) (zi _) h3⟩,(show qg (3) by unfold qg;decide),(show qg (0) by unfold qg;decide),(show ∀ i∈([1,2]:List Int),qg i by unfold qg;decide),(show ([1,2]:List Int).length≤140737488355328 by decide)⟩
 | 4,_=>exact ⟨hr.cell (i:=12) (by decide),hr.cell (i:=13) (by decide),⟨some ⟨b4,0,none⟩,2,hr.cell (i:=14) (by decide),Rd.of_row (r4.congr fun j hj=>by
    match j,hj with
    | 0,_=>rfl
    | 1,_=>rfl
    ) (zi _) h4⟩,(show qg (4) by unfold qg;decide),(show qg (0) by unfold qg;decide),(show ∀ i∈([0,3]:List Int),qg i by unfold qg;decide),(show ([0,3]:List Int).length≤140737488355328 by decide)⟩
end Cs
namespace Go.Proofs.YtoljkoifgnmbgaaGreatDoor
theorem chp_ins:∀ k (hk:k<chpN.l.length),chpN.l[k].ins.length≤1000000:=fun k hk=>by
 have:∀ x∈chpN.l,x.ins.length≤1000000:=by decide
 exact this _ (List.getElem_mem hk)
end Go.Proofs.YtoljkoifgnmbgaaGreatDoor
end
end
section
section
open Go Go.RowKit Cs
namespace Go.Proofs.YtoljkoifgnmbgaaGreatDoor
theorem gJ (q:Rat) (s:ByteArray) (h0:0≤q) (h1:zB (qn q)≤2000) (h2:zB q.den≤2000) (hs:jd q=s):rdO s=some q:=by
 rw [← hs];exact rdO_text h0 h1 h2
theorem rd0:rdO ⟨#[48]⟩=some 0:=gJ 0 _ (by decide +kernel) (by decide +kernel) (by decide +kernel) (by decide +kernel)
theorem rd34:rdO ⟨#[51,47,52]⟩=some (mkRat 3 4):=gJ _ _ (by decide +kernel) (by decide +kernel) (by decide +kernel) (by decide +kernel)
theorem rd12:rdO ⟨#[49,47,50]⟩=some (mkRat 1 2):=gJ _ _ (by decide +kernel) (by decide +kernel) (by decide +kernel) (by decide +kernel)
theorem rd14:rdO ⟨#[49,47,52]⟩=some (mkRat 1 4):=gJ _ _ (by decide +kernel) (by decide +kernel) (by decide +kernel) (by decide +kernel)
def kLo:List ByteArray:=[⟨#[48]⟩,⟨#[51,47,52]⟩,⟨#[49,47,50]⟩]
def kHi:List ByteArray:=[⟨#[48]⟩,⟨#[49,47,52]⟩,⟨#[49,47,50]⟩]
def qG:List Pr:=[(0,1),(3,4),(1,2)]
def qF:List Pr:=[(0,1),(1,4),(1,2)]
theorem zdZ {s:ByteArray} {q:Rat} (h:rdO s=some q) {p:Pr} (hp:(qn q,q.den)=p):prT s=p:=by unfold prT;rw [h];exact hp
theorem kLo_pr:prL kLo=qG:=by
 unfold prL kLo qG;simp only [List.map_cons,List.map_nil];rw [zdZ rd0 (p:=(0,1)) (by decide +kernel),zdZ rd34 (p:=(3,4)) (by decide +kernel),zdZ rd12 (p:=(1,2)) (by decide +kernel)]
theorem kHi_pr:prL kHi=qF:=by
 unfold prL kHi qF;simp only [List.map_cons,List.map_nil];rw [zdZ rd0 (p:=(0,1)) (by decide +kernel),zdZ rd14 (p:=(1,4)) (by decide +kernel),zdZ rd12 (p:=(1,2)) (by decide +kernel)]
theorem kLo_ok:qx kLo kLo.length:=fun i hi=>by
 match i,hi with
 | 0,_=>exact ⟨⟨_,rd0⟩,by decide⟩
 | 1,_=>exact ⟨⟨_,rd34⟩,by decide⟩
 | 2,_=>exact ⟨⟨_,rd12⟩,by decide⟩
theorem kHi_ok:qx kHi kHi.length:=fun i hi=>by
 match i,hi with
 | 0,_=>exact ⟨⟨_,rd0⟩,by decide⟩
 | 1,_=>exact ⟨⟨_,rd14⟩,by decide⟩
 | 2,_=>exact ⟨⟨_,rd12⟩,by decide⟩
theorem gi (V k:Nat) (h:(zj V).size≤k):V<10^k:=by
 rw [qO] at h;exact Nat.lt_of_lt_of_le (jE 10 V (by decide)) (Nat.pow_le_pow_right (by decide) (Nat.le_trans (gu V) h))
theorem zlu (q:Rat) (p:Pr) (h0:0≤q) (h:pq q=p):Lp p:=h▸Lp.pq h0
theorem zeD (V m:Nat) (h:V<256) (hm:1≤m):n8 V≤m:=Nat.le_trans (zkp V 8 1 h (by decide)) hm
theorem few_in {n:Nat} {lo hi:List Pr} (h1:lo.length=n+1) (h2:hi.length=n+1) (h3:∀ p∈lo,Lp p∧p.1<256∧p.2<256) (h4:∀ p∈hi,Lp p∧p.1<256∧p.2<256):WtIn n lo hi:=by
 have key:∀ (L:List Pr),(∀ p∈L,Lp p∧p.1<256∧p.2<256)→∀ k,Lp (L.getD k (0,0))∧(L.getD k (0,0)).1<256∧(L.getD k (0,0)).2<256:=fun L h k=>by
  rw [List.getD_eq_getElem?_getD];by_cases hk:k<L.length
  ·rw [List.getElem?_eq_getElem hk];exact h _ (List.getElem_mem hk)
  ·rw [List.getElem?_eq_none (by omega)];exact ⟨Lp.zero,by decide,by decide⟩
 exact ⟨h1,h2,fun k=>(key lo h3 k).1,fun k=>(key hi h4 k).1,⟨zeD _ _ (key lo h3 0).2.1 (by decide),zeD _ _ (key lo h3 0).2.2 (by decide)⟩,⟨zeD _ _ (key hi h4 0).2.1 (by decide),zeD _ _ (key hi h4 0).2.2 (by decide)⟩,
  fun k=>⟨zeD _ _ (key lo h3 k).2.1 (by decide),zeD _ _ (key lo h3 k).2.2 (by decide)⟩,fun k=>⟨zeD _ _ (key hi h4 k).2.1 (by decide),zeD _ _ (key hi h4 k).2.2 (by decide)⟩⟩
theorem kP_in:WtIn 2 qG qF:=few_in rfl rfl
 (fun p hp=>by
   simp [qG] at hp;rcases hp with rfl | rfl | rfl
   ·exact ⟨zlu 0 _ (by decide +kernel) (by decide +kernel),by decide,by decide⟩
   ·exact ⟨zlu (3 / 4) _ (by decide +kernel) (by decide +kernel),by decide,by decide⟩
   ·exact ⟨zlu (1 / 2) _ (by decide +kernel) (by decide +kernel),by decide,by decide⟩)
 (fun p hp=>by
   simp [qF] at hp;rcases hp with rfl | rfl | rfl
   ·exact ⟨zlu 0 _ (by decide +kernel) (by decide +kernel),by decide,by decide⟩
   ·exact ⟨zlu (1 / 4) _ (by decide +kernel) (by decide +kernel),by decide,by decide⟩
   ·exact ⟨zlu (1 / 2) _ (by decide +kernel) (by decide +kernel),by decide,by decide⟩)
end Go.Proofs.YtoljkoifgnmbgaaGreatDoor
end
end
