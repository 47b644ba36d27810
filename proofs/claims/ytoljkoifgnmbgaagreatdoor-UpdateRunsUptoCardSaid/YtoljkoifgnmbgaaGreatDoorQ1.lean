import Derived.Test.YtoljkoifgnmbgaaGreatDoorS1
import Derived.Test.YtoljkoifgnmbgaaGreatDoorShort
import Derived.Lib.MinMax
set_option linter.unusedSimpArgs false
set_option linter.unusedVariables false
section
open Go Go.RowKit Cs
namespace Cs
def yb (a b:List Nat):List Nat:=(List.range (max a.length b.length)).map fun i=>a.getD i 0+b.getD i 0
def yY (a b:List Nat) (i:Nat) (f:Nat→Nat):Nat→(Nat→Nat)
 | 0=>f
 | k+1=>fun t=>yY a b i f k t+if t=i+k then a.getD i 0*b.getD k 0 else 0
def yt (a b:List Nat):Nat→(Nat→Nat)
 | 0=>fun _=>0
 | i+1=>yY a b i (yt a b i) b.length
def jt (a b:List Nat):List Nat:=if a.length=0∨b.length=0 then [] else (List.range (a.length+b.length-1)).map fun t=>yt a b a.length t
theorem zcF (a b:List Nat):(yb a b).length=max a.length b.length:=by unfold yb;simp
theorem zht (a b:List Nat) (ha:a.length≠0) (hb:b.length≠0):(jt a b).length=a.length+b.length-1:=by
 unfold jt;rw [if_neg (by omega)];simp
theorem zcq (n:Nat) (f:Nat→Nat) (i:Nat):((List.range n).map f).getD i 0=if i<n then f i else 0:=by
 rw [List.getD_eq_getElem?_getD];by_cases h:i<n
 ·rw [if_pos h,List.getElem?_map,List.getElem?_range h];rfl
 ·rw [if_neg h,List.getElem?_eq_none (by simp;omega)];rfl
theorem zcB (a:List Nat) (i:Nat) (h:a.length≤i):a.getD i 0=0:=by
 rw [List.getD_eq_getElem?_getD,List.getElem?_eq_none h];rfl
theorem addP_get (a b:List Nat) (i:Nat):(yb a b).getD i 0=a.getD i 0+b.getD i 0:=by
 unfold yb;rw [zcq];split
 ·rfl
 ·rw [zcB a i (by omega),zcB b i (by omega)]
theorem cvI_ge (a b:List Nat) (i:Nat) (f:Nat→Nat) (t:Nat) (hf:f t=0):∀ k,i+k≤t→yY a b i f k t=0
 | 0,_=>hf
 | k+1,h=>by
   show yY a b i f k t+(if t=i+k then _ else 0)=0;rw [cvI_ge a b i f t hf k (by omega),if_neg (by omega)]
theorem zk5 (a b:List Nat) (t:Nat):∀ i,i+b.length≤t+1→yt a b i t=0
 | 0,_=>rfl
 | i+1,h=>by
   show yY a b i (yt a b i) b.length t=0;exact cvI_ge a b i _ t (zk5 a b t i (by omega)) b.length (by omega)
theorem zj1 (a b:List Nat) (hb:b.length=0) (t:Nat):∀ i,yt a b i t=0
 | 0=>rfl
 | i+1=>by show yY a b i (yt a b i) b.length t=0;rw [hb];exact zj1 a b hb t i
theorem mulP_get (a b:List Nat) (t:Nat):(jt a b).getD t 0=yt a b a.length t:=by
 unfold jt;split
 ·rename_i h;rcases h with h | h
  ·rw [h];rfl
  ·rw [zj1 a b h t];rfl
 ·rw [zcq];split
  ·rfl
  ·rw [zk5 a b t a.length (by omega)]
def ev (a:List Nat):Nat:=a.foldr (·+·) 0
def sm (f:Nat→Nat):Nat→Nat
 | 0=>0
 | n+1=>sm f n+f n
theorem jW (f g:Nat→Nat):∀ n,sm (fun i=>f i+g i) n=sm f n+sm g n
 | 0=>rfl
 | n+1=>by show sm _ n+(f n+g n)=(sm f n+f n)+(sm g n+g n);rw [jW f g n];omega
theorem zjb (f:Nat→Nat):∀ n,(∀ i,i<n→f i=0)→sm f n=0
 | 0,_=>rfl
 | n+1,h=>by show sm f n+f n=0;rw [zjb f n fun i hi=>h i (by omega),h n (by omega)]
theorem zjK (f g:Nat→Nat):∀ n,(∀ i,i<n→f i=g i)→sm f n=sm g n
 | 0,_=>rfl
 | n+1,h=>by show sm f n+f n=sm g n+g n;rw [zjK f g n fun i hi=>h i (by omega),h n (by omega)]
theorem zfr (f:Nat→Nat) (n:Nat):∀ m,n≤m→(∀ i,n≤i→i<m→f i=0)→sm f m=sm f n
 | 0,h,_=>by rw [show n=0 by omega]
 | m+1,h,hz=>by
   by_cases h1:n=m+1
   ·rw [h1]
   ·show sm f m+f m=sm f n;rw [zfr f n m (by omega) fun i h2 h3=>hz i h2 (by omega),hz m (by omega) (by omega)];omega
theorem sm_le (f:Nat→Nat):∀ n i,i<n→f i≤sm f n
 | n+1,i,h=>by
   show f i≤sm f n+f n;by_cases h1:i=n
   ·subst h1;omega
   ·have:=sm_le f n i (by omega);omega
theorem gH (f:Nat→Nat) {n m:Nat} (h:n≤m):sm f n≤sm f m:=by
 induction m with
 | zero=>rw [show n=0 by omega];exact zi _
 | succ m ih =>
   by_cases h1:n=m+1
   ·rw [h1];exact zi _
   ·have:=ih (by omega);show sm f n≤sm f m+f m;omega
theorem sm_one (c t n:Nat) (h:t<n):sm (fun i=>if i=t then c else 0) n=c:=by
 induction n with
 | zero=>omega
 | succ n ih =>
   show sm _ n+(if n=t then c else 0)=c;by_cases h1:n=t
   ·subst h1;rw [if_pos rfl,zjb _ n fun i hi=>if_neg (by omega)];omega
   ·rw [if_neg h1,ih (by omega)];rfl
theorem xO (a:List Nat) (x:Nat):ev (a++[x])=ev a+x:=by
 unfold ev;rw [List.foldr_append]
 induction a with
 | nil=>simp
 | cons y ys ih=>simp only [List.foldr_cons] at ih ⊢;rw [ih];omega
theorem zff (f:Nat→Nat):∀ n,ev ((List.range n).map f)=sm f n
 | 0=>rfl
 | n+1=>by rw [List.range_succ,List.map_append];show ev (_++[f n])=_;rw [xO,zff f n];rfl
theorem zfP (a:List Nat):ev a=sm (fun i=>a.getD i 0) a.length:=by
 conv=>lhs;rw [show a=(List.range a.length).map (fun i=>a.getD i 0) from List.ext_getElem (by simp) fun i h1 h2=>by simp [List.getD,h1]]
 rw [zff]
theorem zeM (a:List Nat) (i:Nat):a.getD i 0≤ev a:=by
 by_cases h:i<a.length
 ·rw [zfP];exact sm_le (fun i=>a.getD i 0) _ _ h
 ·rw [zcB a i (by omega)];omega
theorem ze8 (a b:List Nat):ev (yb a b)=ev a+ev b:=by
 rw [zfP a,zfP b];unfold yb;rw [zff,jW];congr 1
 ·exact zfr _ _ _ (by omega) fun i h1 _=>zcB a i h1
 ·exact zfr _ _ _ (by omega) fun i h1 _=>zcB b i h1
theorem jV (a b:List Nat) (i:Nat) (f:Nat→Nat) (n:Nat):∀ k,i+k≤n→sm (yY a b i f k) n=sm f n+a.getD i 0*sm (fun j=>b.getD j 0) k
 | 0,_=>by show sm f n=sm f n+a.getD i 0*0;omega
 | k+1,h=>by
   show sm (fun t=>yY a b i f k t+if t=i+k then a.getD i 0*b.getD k 0 else 0) n=sm f n+a.getD i 0*(sm (fun j=>b.getD j 0) k+b.getD k 0);rw [jW (yY a b i f k),jV a b i f n k (by omega),sm_one _ (i+k) n (by omega),Nat.mul_add];omega
theorem jU (a b:List Nat) (n:Nat):∀ i,i+b.length≤n+1→sm (yt a b i) n=sm (fun j=>a.getD j 0) i*ev b
 | 0,_=>by show sm (fun _=>0) n=0*_;rw [zjb _ _ fun _ _=>rfl];omega
 | i+1,h=>by
   show sm (yY a b i (yt a b i) b.length) n=(sm (fun j=>a.getD j 0) i+a.getD i 0)*ev b;rw [jV a b i _ n b.length (by omega),jU a b n i (by omega),← zfP,Nat.add_mul]
theorem ev_mulP (a b:List Nat):ev (jt a b)=ev a*ev b:=by
 unfold jt;split
 ·rename_i h;rcases h with h | h
  ·rw [zfP a,h];simp [sm,ev]
  ·rw [zfP b,h];simp [sm,ev]
 ·rename_i h;rw [zff,jU a b _ a.length (by omega),← zfP]
theorem cvI_le (a b:List Nat) (i k t:Nat) (hi:i<a.length) (hk:k≤b.length):yY a b i (yt a b i) k t≤ev a*ev b:=by
 have h1:yY a b i (yt a b i) k t≤sm (yY a b i (yt a b i) k) (t+1+i+b.length):=sm_le _ _ _ (by omega);refine Nat.le_trans h1 ?_;rw [jV a b i _ _ k (by omega),jU a b _ i (by omega)];have h2:sm (fun j=>b.getD j 0) k≤ev b:=by
  rw [zfP];exact gH _ hk
 have h3:sm (fun j=>a.getD j 0) (i+1)≤ev a:=by
  rw [zfP];exact gH _ hi
 have h4:sm (fun j=>a.getD j 0) (i+1)=sm (fun j=>a.getD j 0) i+a.getD i 0:=rfl;rw [h4] at h3
 calc sm (fun j=>a.getD j 0) i*ev b+a.getD i 0*sm (fun j=>b.getD j 0) k≤sm (fun j=>a.getD j 0) i*ev b+a.getD i 0*ev b:=Nat.add_le_add_left (Nat.mul_le_mul_left _ h2) _
  _=(sm (fun j=>a.getD j 0) i+a.getD i 0)*ev b:=by rw [Nat.add_mul]
  _≤ev a*ev b:=Nat.mul_le_mul_right _ h3
def RC:Rg (List Nat):=⟨[],[1],yb,jt,fun l=>if l<0 then [1] else [0,1],fun _=>[1,1]⟩
end Cs
end
section
open Go Go.RowKit Cs
namespace Cs
theorem zdJ:∀ (vs:List Int) (p:List Nat),(RC.wide p vs).length≤p.length+vs.length
 | [],p=>by show p.length≤_;simp
 | v::vs,p=>by
   have h:=zdJ vs (jt p [1,1]);have h2:(jt p [1,1]).length≤p.length+1:=by
    rcases Nat.eq_zero_or_pos p.length with h0 | h0
    ·unfold jt;rw [if_pos (.inl h0)];simp
    ·rw [zht p [1,1] (by omega) (by decide)];simp
   show (RC.wide (jt p [1,1]) vs).length≤p.length+(vs.length+1);omega
end Cs
end
section
open Go Go.RowKit Cs
namespace Cs
def yi (s:Nat):Nat:=(List.range 128).countP fun i=>s.testBit i
theorem crd_vl (s:Nat):(vl s).length=yi s:=by
 rw [zkT,List.length_map];unfold zhS yi;rw [List.length_map,List.countP_eq_length_filter]
theorem zfW (f g:Nat→Bool):∀ l:List Nat,(∀ i∈l,(f i&&g i)=false)→l.countP (fun i=>f i||g i)=l.countP f+l.countP g
 | [],_=>rfl
 | x::xs,h=>by
   have h1:=h x (by simp);have h2:=zfW f g xs fun i hi=>h i (by simp [hi]);rw [List.countP_cons,List.countP_cons,List.countP_cons,h2];cases hf:f x <;> cases hg:g x <;> simp_all <;> omega
theorem crd_or (s t:Nat) (h:s &&& t=0):yi (s ||| t)=yi s+yi t:=by
 unfold yi;rw [← zfW]
 ·congr 1;funext i;rw [Nat.testBit_or]
 ·intro i _;rw [← Nat.testBit_and,h,Nat.zero_testBit]
theorem ziF (s t:Nat) (h:∀ i,t.testBit i=true→s.testBit i=true):yi (zI s t)+yi t=yi s:=by
 unfold yi;rw [← zfW]
 ·congr 1;funext i
  rw [jQ];have:=h i;cases h1:s.testBit i <;> cases h2:t.testBit i <;> simp_all
 ·intro i _;rw [jQ];cases s.testBit i <;> cases t.testBit i <;> rfl
theorem crd_le (s:Nat):yi s≤128:=by rw [← crd_vl];exact zbe s
theorem crd_one (i:Nat) (h:i<128):1≤yi (2^i):=by
 unfold yi;rw [Nat.succ_le_iff,List.countP_pos_iff];exact ⟨i,by simpa using h,by simp [Nat.testBit_two_pow]⟩
theorem zjq (a b:List Nat):(jt a b).length≤a.length+b.length-1:=by
 by_cases h:a.length=0∨b.length=0
 ·unfold jt;rw [if_pos h];simp
 ·rw [zht a b (by omega) (by omega)];omega
theorem zee (acc:List Nat) (i:Nat):∀ (ks:List Int) (s:Nat),(ks.foldl (fun s k=>s ||| acc.getD k.toNat 0) s).testBit i=(s.testBit i||ks.any fun k=>(acc.getD k.toNat 0).testBit i)
 | [],s=>by simp
 | k::ks,s=>by
   show (ks.foldl _ (s ||| acc.getD k.toNat 0)).testBit i=_;rw [zee acc i ks,Nat.testBit_or,List.any_cons,Bool.or_assoc]
theorem zk9 (s t:Nat) (h:∀ i,t.testBit i=true→s.testBit i=true):yi t≤yi s:=by
 have:=ziF s t h;omega
theorem zex {N:Nt} (hv:zC N=true) (k:Nat) (hk:k<N.l.length) (i:Nat) :
  ((own N.l).getD k 0).testBit i=((qj 0 (zQ N.l[k].lit)).testBit i||N.l[k].ins.any fun j=>((own N.l).getD j.toNat 0).testBit i):=by
 have h1:(own N.l).getD k 0=gz (scan gz [] (N.l.take k)) N.l[k]:=by unfold own;rw [zdQ _ _ _ _ hk]
 rw [h1];show (N.l[k].ins.foldl (fun s j=>s ||| (scan gz [] (N.l.take k)).getD j.toNat 0) (qj 0 (zQ N.l[k].lit))).testBit i=_;rw [zee];congr 1;have hin:=Go.Proofs.YtoljkoifgnmbgaaGreatDoor.formed_ins (yT hv k hk);rw [Bool.eq_iff_iff,List.any_eq_true,List.any_eq_true];have key:∀ j∈N.l[k].ins,(scan gz [] (N.l.take k)).getD j.toNat 0=(own N.l).getD j.toNat 0:=fun j hj=>by
  obtain ⟨a,ha,rfl⟩:=List.getElem_of_mem hj;obtain ⟨m,hm1,hm2⟩:=hin a ha;have:N.l[k].ins[a]=(m:Int):=by rw [← hm1];simp [List.getD,ha]
  rw [this,Int.toNat_natCast];exact zds gz 0 N.l k m (by omega) hm2
 constructor
 ·rintro ⟨j,hj,h⟩;exact ⟨j,hj,by rw [← key j hj];exact h⟩
 ·rintro ⟨j,hj,h⟩;exact ⟨j,hj,by rw [key j hj];exact h⟩
theorem zdF {N:Nt} (hv:zC N=true) (k:Nat) (hk:k<N.l.length) (j:Int) (hj:j∈N.l[k].ins) (i:Nat) (h:((own N.l).getD j.toNat 0).testBit i=true):((own N.l).getD k 0).testBit i=true:=by
 rw [zex hv k hk i,Bool.or_eq_true];exact .inr (List.any_eq_true.2 ⟨j,hj,h⟩)
theorem xa (O:List Nat) (L:List (List Nat)) (x:Nd) (h3:x.kind=3):∀ (ks:List Int) (s:Nat) (p:List Nat),apart O s ks=true→(∀ k∈ks,(L.getD k.toNat []).length≤yi (O.getD k.toNat 0)+1)→p.length≤yi s+1 →
  ∀ m,((ks.take m).foldl (RC.in1 O L x) p).length≤yi ((ks.take m).foldl (fun s k=>s ||| O.getD k.toNat 0) s)+1
 | [],s,p,_,_,hp,m=>by simpa using hp
 | k::ks,s,p,ha,hL,hp,0=>by simpa using hp
 | k::ks,s,p,ha,hL,hp,m+1=>by
   unfold apart at ha;split at ha
   ·rename_i h0;have h1:RC.in1 O L x p k=jt p (L.getD k.toNat []):=by unfold Rg.in1;rw [if_pos (.inr h3)];rfl
    have h2:(RC.in1 O L x p k).length≤yi (s ||| O.getD k.toNat 0)+1:=by
     rw [h1,crd_or _ _ h0];have:=zjq p (L.getD k.toNat []);have:=hL k (by simp);omega
    exact xa O L x h3 ks _ _ ha (fun k' hk'=>hL k' (by simp [hk'])) h2 m
   ·cases ha
theorem or_len (O:List Nat) (L:List (List Nat)) (x:Nd) (h3:¬ (x.kind=1∨x.kind=3)) (c:Nat):∀ (ks:List Int) (p:List Nat),(∀ k∈ks,(RC.gap O L (O.getD L.length 0) k.toNat).length≤c)→p.length≤c →
  ∀ m,((ks.take m).foldl (RC.in1 O L x) p).length≤c
 | [],p,_,hp,m=>by simpa using hp
 | k::ks,p,hL,hp,0=>by simpa using hp
 | k::ks,p,hL,hp,m+1=>by
   have h1:RC.in1 O L x p k=yb p (RC.gap O L (O.getD L.length 0) k.toNat):=by unfold Rg.in1;rw [if_neg h3];rfl
   have h2:(RC.in1 O L x p k).length≤c:=by
    rw [h1,zcF];have:=hL k (by simp);omega
   exact or_len O L x h3 c ks _ (fun k' hk'=>hL k' (by simp [hk'])) h2 m
theorem zfj (O:List Nat):∀ (l:List Nd) (k:Nat) (hk:k<l.length),yR O l=true→l[k].kind=3→apart O 0 l[k].ins=true
 | x::xs,0,_,h,h3=>by
   unfold yR at h
   change x.kind=3 at h3
   rw [if_pos h3,Bool.and_eq_true] at h;exact h.1
 | x::xs,k+1,hk,h,h3=>by
   unfold yR at h;have h2:yR O xs=true:=by
    split at h
    ·rw [Bool.and_eq_true] at h;exact h.2
    ·exact h
   exact zfj O xs k (by simpa using hk) h2 h3
theorem zgc {N:Nt} (hv:zC N=true) (hd:qv N=true) (k:Nat) (hk:k<N.l.length) (L:List (List Nat)) (hLl:L.length=k) (hL:∀ j,j<k→(L.getD j []).length≤yi ((own N.l).getD j 0)+1) (m:Nat) :
  ((N.l[k].ins.take m).foldl (RC.in1 (own N.l) L N.l[k]) (RC.start N.l[k])).length≤yi ((own N.l).getD k 0)+1:=by
 have hfm:=yT hv k hk;have hin:=Go.Proofs.YtoljkoifgnmbgaaGreatDoor.formed_ins hfm;have hmem:∀ j∈N.l[k].ins,∃ m:Nat,j=(m:Int)∧m<k:=fun j hj=>by
  obtain ⟨a,ha,rfl⟩:=List.getElem_of_mem hj;obtain ⟨m,hm1,hm2⟩:=hin a ha;exact ⟨m,by rw [← hm1];simp [List.getD,ha],hm2⟩
 have hLm:∀ j∈N.l[k].ins,(L.getD j.toNat []).length≤yi ((own N.l).getD j.toNat 0)+1:=fun j hj=>by
  obtain ⟨m,rfl,hm⟩:=hmem j hj;exact hL _ (by simpa using hm)
 rcases zba hfm with ⟨hkk,hil⟩ | h3 | h4
 ·rw [List.length_eq_zero_iff] at hil;have hf:(N.l[k].ins.take m).foldl (RC.in1 (own N.l) L N.l[k]) (RC.start N.l[k])=RC.start N.l[k]:=by rw [hil];simp
  rw [hf];unfold Rg.start;split
  ·rename_i h2;have hlit:qi N.l[k].lit N.n=true:=by
    have h:=hfm;unfold qK at h;rw [hil] at h;simp [h2] at h;exact h
   unfold qi at hlit;simp at hlit;have hlv:=zdh N.l[k].lit;have h1:1≤yi ((own N.l).getD k 0):=by
    refine Nat.le_trans (crd_one ((zQ N.l[k].lit).toNat-1) (by omega)) (zk9 _ _ fun i hi=>?_);rw [zex hv k hk i,Bool.or_eq_true]
    left;unfold qj;rw [if_pos (by omega),Nat.zero_or];exact hi
   show (if N.l[k].lit<0 then [1] else [0,1]).length≤_;split
   ·show 1≤_;omega
   ·show 2≤_;omega
  ·split
   ·show 1≤_;omega
   ·show 0≤_;omega
 ·have ha:=zfj (own N.l) N.l k hk hd h3;have h1:=xa (own N.l) L N.l[k] h3 N.l[k].ins 0 (RC.start N.l[k]) ha hLm (by unfold Rg.start;rw [if_neg (by omega),if_pos (.inr h3)];show 1≤_;omega) m;refine Nat.le_trans h1 (Nat.succ_le_succ (zk9 _ _ fun i hi=>?_));rw [zee,Nat.zero_testBit,Bool.false_or,List.any_eq_true] at hi;obtain ⟨j,hj,hji⟩:=hi;exact zdF hv k hk j (List.mem_of_mem_take hj) i hji
 ·refine or_len (own N.l) L N.l[k] (by omega) _ N.l[k].ins (RC.start N.l[k]) (fun j hj=>?_) (by unfold Rg.start;rw [if_neg (by omega),if_neg (by omega)];show 0≤_;omega) m;have h1:=hLm j hj;have h2:=ziF ((own N.l).getD k 0) ((own N.l).getD j.toNat 0) fun i hi=>zdF hv k hk j hj i hi;have h3:=zdJ (vl (zI ((own N.l).getD k 0) ((own N.l).getD j.toNat 0))) (L.getD j.toNat []);rw [crd_vl] at h3;unfold Rg.gap;rw [hLl];show (RC.wide (L.getD j.toNat []) _).length≤_;omega
theorem zgR {N:Nt} (hv:zC N=true) (hd:qv N=true):∀ k,k≤N.l.length→∀ j,j<k→((scan (RC.step (own N.l)) [] (N.l.take k)).getD j []).length≤yi ((own N.l).getD j 0)+1:=by
 intro k
 induction k with
 | zero=>intro _ j hj;omega
 | succ k ih =>
   intro hk j hj;have ih':=ih (by omega);rw [jf _ _ k (by omega)];have hlen:=q7 (RC.step (own N.l)) N.l k (by omega);by_cases h:j<k
   ·rw [List.getD_eq_getElem?_getD,List.getElem?_append_left (by omega),← List.getD_eq_getElem?_getD];exact ih' j h
   ·obtain rfl:j=k:=by omega
    rw [List.getD_eq_getElem?_getD,List.getElem?_append_right (by omega),hlen,Nat.sub_self];have h1:=zgc hv hd j (by omega) _ hlen ih' N.l[j].ins.length;rw [List.take_length] at h1;exact h1
end Cs
end
section
open Go Go.RowKit Cs
namespace Cs
theorem zhw {x:Nd} {n before:Int} (h:qK x n before=true) (hn:0≤n):zQ x.lit≤n:=by
 unfold qK at h;split at h
 ·cases h
 ·split at h
  ·simp at h;rw [h.1];exact hn
  ·split at h
   ·simp [qi] at h;exact h.1.2
   ·split at h
    ·simp at h;rw [h];exact hn
    ·cases h
theorem zhL (v:Int) (i:Nat) (h:(qj 0 v).testBit i=true):(i:Int)+1=v:=by
 unfold qj at h;split at h
 ·rw [Nat.zero_or,Nat.testBit_two_pow] at h;simp at h;omega
 ·simp at h
theorem zcn {N:Nt} (hv:zC N=true):∀ (m k:Nat),k<m→k<N.l.length→∀ i,((own N.l).getD k 0).testBit i=true→(i:Int)<N.n
 | m+1,k,hkm,hk,i,h=>by
   obtain ⟨hn0,hn1,_,_⟩:=qD hv;rw [zex hv k hk i,Bool.or_eq_true,List.any_eq_true] at h;rcases h with h | ⟨j,hj,h⟩
   ·have h1:=zhL _ _ h;have h2:=zhw (yT hv k hk) hn0;omega
   ·obtain ⟨a,ha,rfl⟩:=List.getElem_of_mem hj;obtain ⟨b,hb1,hb2⟩:=Go.Proofs.YtoljkoifgnmbgaaGreatDoor.formed_ins (yT hv k hk) a ha;have e:N.l[k].ins[a]=(b:Int):=by rw [← hb1];simp [List.getD,ha]
    rw [e,Int.toNat_natCast] at h;exact zcn hv m b (by omega) (by omega) i h
end Cs
namespace Cs
section
variable {α:Type}
def Rg.cut (R:Rg α) (n:Int):Rg α:=⟨R.zero,R.one,R.add,R.mul,fun l=>if qi l n then R.lit l else R.zero,fun v=>if 1≤v∧v≤n then R.both v else R.zero⟩
theorem zdN {s:Nat} {v:Int} (h:v∈vl s):∃ i:Nat,s.testBit i=true∧v=(i:Int)+1:=by
 rw [zkT] at h;obtain ⟨a,ha,rfl⟩:=List.mem_map.1 h;unfold zhS at ha;obtain ⟨i,hi,rfl⟩:=List.mem_map.1 ha;rw [List.mem_filter] at hi;exact ⟨i,hi.2,by simp⟩
variable (R:Rg α) (n:Int)
theorem zk6:∀ (vs:List Int) (x:α),(∀ v,v∈vs→1≤v∧v≤n)→(R.cut n).wide x vs=R.wide x vs
 | [],x,_=>rfl
 | v::vs,x,h=>by
   have h1:=h v (by simp);show (R.cut n).wide (R.mul x (if 1≤v∧v≤n then R.both v else R.zero)) vs=R.wide (R.mul x (R.both v)) vs;rw [if_pos h1];exact zk6 vs _ fun v hv=>h v (by simp [hv])
theorem oV (O:List Nat) (acc:List α) (all k:Nat) (h:∀ i,all.testBit i=true→(i:Int)<n):(R.cut n).gap O acc all k=R.gap O acc all k:=by
 unfold Rg.gap;refine zk6 R n _ _ fun v hv=>?_;obtain ⟨i,hi,rfl⟩:=zdN hv;rw [jQ,Bool.and_eq_true] at hi;have:=h i hi.1;omega
theorem pR (x:Nd) (b:Int) (h:qK x n b=true):(R.cut n).start x=R.start x:=by
 unfold Rg.start;by_cases h2:x.kind=2
 ·rw [if_pos h2,if_pos h2];have hlit:qi x.lit n=true:=by
   rcases zba h with ⟨_,h3⟩ | h1 | h1
   ·unfold qK at h;rw [List.length_eq_zero_iff.1 h3] at h;simp [h2] at h;exact h
   ·omega
   ·omega
  show (if qi x.lit n=true then R.lit x.lit else R.zero)=_;rw [if_pos hlit]
 ·rw [if_neg h2,if_neg h2];rfl
theorem zk7 (O:List Nat) (acc:List α) (x:Nd) (h:∀ i,(O.getD acc.length 0).testBit i=true→(i:Int)<n):∀ (ks:List Int) (s:α),ks.foldl ((R.cut n).in1 O acc x) s=ks.foldl (R.in1 O acc x) s
 | [],s=>rfl
 | k::ks,s=>by
   have h1:(R.cut n).in1 O acc x s k=R.in1 O acc x s k:=by
    unfold Rg.in1;split
    ·rfl
    ·show R.add s ((R.cut n).gap O acc (O.getD acc.length 0) k.toNat)=_;rw [oV R n O acc _ _ h]
   show ks.foldl _ ((R.cut n).in1 O acc x s k)=ks.foldl _ (R.in1 O acc x s k);rw [h1];exact zk7 O acc x h ks _
theorem oU {N:Nt} (hv:zC N=true):(R.cut N.n).sum N=R.sum N:=by
 have hsc:∀ k,k≤N.l.length→scan ((R.cut N.n).step (own N.l)) [] (N.l.take k)=scan (R.step (own N.l)) [] (N.l.take k):=by
  intro k
  induction k with
  | zero=>intro _;rfl
  | succ k ih =>
    intro hk;have h1:=ih (by omega);rw [jf _ _ k (by omega),jf _ _ k (by omega),h1];congr 2;unfold Rg.step;rw [pR R N.n _ _ (yT hv k (by omega))];refine zk7 R N.n _ _ _ (fun i hi=>?_) _ _;rw [q7 _ _ _ (by omega)] at hi;exact zcn hv N.l.length k (by omega) (by omega) i hi
 have h2:=hsc N.l.length (zi _);rw [List.take_length] at h2;unfold Rg.sum Rg.all;rw [h2];obtain ⟨hn0,hn1,_,_⟩:=qD hv;refine oV R N.n _ _ _ _ fun i hi=>?_;rw [zbm] at hi;simp at hi;omega
end
structure Rv {α β:Type} (R:Rg α) (S:Rg β) (n:Int) (r:α→β→Prop):Prop where
 zero:r R.zero S.zero
 one:r R.one S.one
 add:∀ a b c d,r a b→r c d→r (R.add a c) (S.add b d)
 mul:∀ a b c d,r a b→r c d→r (R.mul a c) (S.mul b d)
 lit:∀ l,qi l n=true→r (R.lit l) (S.lit l)
 both:∀ v,1≤v→v≤n→r (R.both v) (S.both v)
theorem Rv.sum {α β:Type} {R:Rg α} {S:Rg β} {r:α→β→Prop} {N:Nt} (h:Rv R S N.n r) (hv:zC N=true):r (R.sum N) (S.sum N):=by
 rw [← oU R hv,← oU S hv];refine Rl.sum (R:=R.cut N.n) (S:=S.cut N.n) (r:=r) ⟨h.zero,h.one,h.add,h.mul,fun l=>?_,fun v=>?_⟩ N
 ·show r (if qi l N.n=true then R.lit l else R.zero) (if qi l N.n=true then S.lit l else S.zero);split
  ·rename_i h1;exact h.lit l h1
  ·exact h.zero
 ·show r (if 1≤v∧v≤N.n then R.both v else R.zero) (if 1≤v∧v≤N.n then S.both v else S.zero);split
  ·rename_i h1;exact h.both v h1.1 h1.2
  ·exact h.zero
end Cs
namespace Cs
structure CR {α:Type} (R:Rg α):Prop where
 addc:∀ a b,R.add a b=R.add b a
 adda:∀ a b c,R.add (R.add a b) c=R.add a (R.add b c)
 mulc:∀ a b,R.mul a b=R.mul b a
 mula:∀ a b c,R.mul (R.mul a b) c=R.mul a (R.mul b c)
 zadd:∀ a,R.add R.zero a=a
 omul:∀ a,R.mul R.one a=a
 zmul:∀ a,R.mul R.zero a=R.zero
 dist:∀ a b c,R.mul a (R.add b c)=R.add (R.mul a b) (R.mul a c)
def Rg.wit {α:Type} (R:Rg α) (W:Int→α):Rg α:=⟨R.zero,R.one,R.add,R.mul,W,fun v=>R.add (W v) (W (-v))⟩
def zW {α:Type} (W:Int→α) (v:Int) (a b:α):Int→α:=fun l=>if l=v then a else if l = -v then b else W l
theorem mem_vl {s:Nat} {i:Nat} (h:i<128):((i:Int)+1∈vl s)↔s.testBit i=true:=by
 constructor
 ·intro hm;obtain ⟨j,hj,e⟩:=zdN hm;have:i=j:=by omega
  rw [this];exact hj
 ·intro hb;rw [zkT,List.mem_map];refine ⟨i+1,?_,by simp⟩;unfold zhS;exact List.mem_map.2 ⟨i,List.mem_filter.2 ⟨List.mem_range.2 h,hb⟩,rfl⟩
theorem zlx {v n:Int} (h1:1≤v) (h2:v≤n) (hn:n≤128):qi v n=true∧qi (-v) n=true:=by
 unfold qi zQ;constructor <;> refine decide_eq_true ?_ <;> (repeat' split) <;> omega
theorem zcz {l n:Int} (h:qi l n=true):(1≤l∧l≤n∧l≤128)∨(l≤-1∧-l≤n∧-l≤128):=by
 unfold qi zQ at h;have h:=of_decide_eq_true h
 revert h
 (repeat' split) <;> intro h <;> omega
theorem zjI (s:Nat):(vl s).Nodup:=by
 rw [zkT];unfold zhS;refine List.Pairwise.map (R:=(·≠·)) (S:=(·≠·)) _ (fun a b h e=>h (by omega)) (List.Pairwise.map (R:=(·≠·)) (S:=(·≠·)) _ (fun a b h e=>h (by omega)) (List.Pairwise.filter _ List.nodup_range))
theorem zgT (l:Int) (i:Nat):(qj 0 (zQ l)).testBit i=decide (zQ l=(i:Int)+1):=by
 have hl:=zdh l;obtain ⟨m,hm⟩:∃ m,zQ l=m:=⟨_,rfl⟩;rw [hm] at hl ⊢;unfold qj;by_cases h:1≤m∧m≤128
 ·rw [if_pos h,Nat.zero_or,Nat.testBit_two_pow];exact decide_eq_decide.2 (by omega)
 ·rw [if_neg h,Nat.zero_testBit];exact (decide_eq_false (by omega)).symm
section
variable {α:Type} {R:Rg α}
def Ln (R:Rg α) (a b:α) (i:Bool) (p q t:α):Prop:=if i=true then p=R.add (R.mul a q) (R.mul b t) else p=q∧p=t
variable {a b:α}
theorem CR.addz (C:CR R) (a:α):R.add a R.zero=a:=by rw [C.addc,C.zadd]
theorem CR.mulo (C:CR R) (a:α):R.mul a R.one=a:=by rw [C.mulc,C.omul]
theorem CR.mulz (C:CR R) (a:α):R.mul a R.zero=R.zero:=by rw [C.mulc,C.zmul]
theorem CR.tsid (C:CR R) (a b c:α):R.mul (R.add a b) c=R.add (R.mul a c) (R.mul b c):=by rw [C.mulc,C.dist,C.mulc c a,C.mulc c b]
theorem CR.add4 (C:CR R) (a b c d:α):R.add (R.add a b) (R.add c d)=R.add (R.add a c) (R.add b d):=by
 rw [C.adda,C.adda,← C.adda b c d,C.addc b c,C.adda c b d]
theorem Ln.mulR (C:CR R) {i:Bool} {p q t:α} (h:Ln R a b i p q t) (c:α):Ln R a b i (R.mul p c) (R.mul q c) (R.mul t c):=by
 unfold Ln at *
 split
 ·rename_i h0;rw [if_pos h0] at h;rw [h,C.tsid,C.mula,C.mula]
 ·rename_i h0;rw [if_neg h0] at h;exact ⟨by rw [h.1],by rw [h.2]⟩
theorem Ln.mulL (C:CR R) {i:Bool} {p q t:α} (h:Ln R a b i p q t) (c:α):Ln R a b i (R.mul c p) (R.mul c q) (R.mul c t):=by
 rw [C.mulc c p,C.mulc c q,C.mulc c t];exact h.mulR C c
theorem Ln.add (C:CR R) {i:Bool} {p q t p' q' t':α} (h:Ln R a b i p q t) (h':Ln R a b i p' q' t'):Ln R a b i (R.add p p') (R.add q q') (R.add t t'):=by
 unfold Ln at *
 split
 ·rename_i h0;rw [if_pos h0] at h h';rw [h,h',C.add4,C.dist,C.dist]
 ·rename_i h0;rw [if_neg h0] at h h';exact ⟨by rw [h.1,h'.1],by rw [h.2,h'.2]⟩
theorem Ln.zero (C:CR R) (i:Bool):Ln R a b i R.zero R.zero R.zero:=by
 unfold Ln;split
 ·rw [C.mulz,C.mulz,C.zadd]
 ·exact ⟨rfl,rfl⟩
theorem Ln.same (p:α):Ln R a b false p p p:=⟨rfl,rfl⟩
theorem Ln.no {p q t:α} (h:Ln R a b false p q t):p=q∧p=t:=h
theorem Ln.mul (C:CR R) {i j:Bool} {p q t p' q' t':α} (h:Ln R a b i p q t) (h':Ln R a b j p' q' t') (hij:¬ (i=true∧j=true)):Ln R a b (i||j) (R.mul p p') (R.mul q q') (R.mul t t'):=by
 cases j
 ·obtain ⟨rfl,rfl⟩:=h'.no;rw [Bool.or_false];exact h.mulR C _
 ·cases i
  ·obtain ⟨rfl,rfl⟩:=h.no;exact h'.mulL C _
  ·exact absurd ⟨rfl,rfl⟩ hij
variable (W:Int→α) (v:Int)
theorem zbp (a b:α) {u:Int} (h1:u≠v) (h2:u≠-v):zW W v a b u=W u:=by unfold zW;rw [if_neg h1,if_neg h2]
theorem zer (a b:α):zW W v a b v=a:=by unfold zW;rw [if_pos rfl]
theorem zdq (a b:α) (hv:1≤v):zW W v a b (-v)=b:=by unfold zW;rw [if_neg (by omega),if_pos rfl]
theorem Ln.wide (C:CR R) (hv:1≤v) (vs:List Int):vs.Nodup→(∀ u∈vs,1≤u)→∀ (i:Bool) (p q t:α),Ln R a b i p q t→(v∈vs→i=false) →
  Ln R a b (i||decide (v∈vs)) ((R.wit (zW W v a b)).wide p vs) ((R.wit (zW W v R.one R.zero)).wide q vs) ((R.wit (zW W v R.zero R.one)).wide t vs):=by
 induction vs with
 | nil=>intro _ _ i p q t h _;simpa [Rg.wide] using h
 | cons u us IH =>
   intro hn h1 i p q t h hi;have hn':=List.nodup_cons.1 hn;have hu:=h1 u (by simp);have IH2:=IH hn'.2 (fun w hw=>h1 w (by simp [hw]));show Ln R a b _ ((R.wit (zW W v a b)).wide (R.mul p (R.add (zW W v a b u) (zW W v a b (-u)))) us) ((R.wit (zW W v R.one R.zero)).wide (R.mul q (R.add (zW W v R.one R.zero u) (zW W v R.one R.zero (-u)))) us) ((R.wit (zW W v R.zero R.one)).wide (R.mul t (R.add (zW W v R.zero R.one u) (zW W v R.zero R.one (-u)))) us);by_cases huv:u=v
   ·subst huv;have hf:=hi (by simp);subst hf;obtain ⟨rfl,rfl⟩:=h.no;have h2:Ln R a b true (R.mul p (R.add (zW W u a b u) (zW W u a b (-u)))) (R.mul p (R.add (zW W u R.one R.zero u) (zW W u R.one R.zero (-u)))) (R.mul p (R.add (zW W u R.zero R.one u) (zW W u R.zero R.one (-u)))):=by
     rw [zer,zer,zer,zdq _ _ _ _ hv,zdq _ _ _ _ hv,zdq _ _ _ _ hv,C.addz,C.zadd,C.mulo];unfold Ln;rw [if_pos rfl,C.mulc p,C.tsid]
    have ih:=IH2 true _ _ _ h2 (fun hm=>absurd hm hn'.1);have e:(false||decide (u∈u::us))=(true||decide (u∈us)):=by simp
    rw [e];exact ih
   ·have e1:u≠-v:=by omega
    have e2 : -u≠v:=by omega
    have e3 : -u≠-v:=by omega
    rw [zbp _ _ _ _ huv e1,zbp _ _ _ _ e2 e3,zbp _ _ _ _ huv e1,zbp _ _ _ _ e2 e3,zbp _ _ _ _ huv e1,zbp _ _ _ _ e2 e3];have ih:=IH2 i _ _ _ (h.mulR C (R.add (W u) (W (-u)))) (fun hm=>hi (by simp [hm]));have e:decide (v∈u::us)=decide (v∈us):=by
     refine decide_eq_decide.2 ?_;rw [List.mem_cons];exact ⟨fun h=>h.resolve_left (Ne.symm huv),.inr⟩
    rw [e];exact ih
theorem jT (s:Nat):∀ u∈vl s,1≤u:=fun u hu=>by
 obtain ⟨i,_,rfl⟩:=zdN hu;omega
theorem ov (C:CR R) (i:Nat) (hi:i<128) (O:List Nat) (P Q T:List α) (all k:Nat) (h:Ln R a b ((O.getD k 0).testBit i) (P.getD k R.zero) (Q.getD k R.zero) (T.getD k R.zero)) (hs:(O.getD k 0).testBit i=true→all.testBit i=true) :
  Ln R a b (all.testBit i) ((R.wit (zW W ((i:Int)+1) a b)).gap O P all k) ((R.wit (zW W ((i:Int)+1) R.one R.zero)).gap O Q all k) ((R.wit (zW W ((i:Int)+1) R.zero R.one)).gap O T all k):=by
 have hm:decide ((i:Int)+1∈vl (zI all (O.getD k 0)))=(all.testBit i && !(O.getD k 0).testBit i):=by
  rw [← jQ,Bool.eq_iff_iff,decide_eq_true_iff];exact mem_vl hi
 have:=Ln.wide W ((i:Int)+1) C (by omega) _ (zjI (zI all (O.getD k 0))) (jT _) _ _ _ _ h (fun hmm=>by
  have:=decide_eq_true hmm;rw [hm] at this
  revert this
  cases (O.getD k 0).testBit i <;> simp)
 rw [hm] at this;have e:((O.getD k 0).testBit i||(all.testBit i && !(O.getD k 0).testBit i))=all.testBit i:=by
  revert hs
  cases (O.getD k 0).testBit i <;> cases all.testBit i <;> simp
 rw [e] at this;exact this
theorem ox (C:CR R) (i:Nat) (O:List Nat) (P Q T:List α) (Rp Rq Rt:Rg α) (hp:Rp.mul=R.mul) (hq:Rq.mul=R.mul) (ht:Rt.mul=R.mul) (zp:Rp.zero=R.zero) (zq:Rq.zero=R.zero) (zt:Rt.zero=R.zero) (x:Nd) (h3:x.kind=1∨x.kind=3) :
  ∀ (ks:List Int) (s:Nat) (p q t:α),apart O s ks=true→(∀ k∈ks,Ln R a b ((O.getD k.toNat 0).testBit i) (P.getD k.toNat R.zero) (Q.getD k.toNat R.zero) (T.getD k.toNat R.zero))→Ln R a b (s.testBit i) p q t →
   Ln R a b ((ks.foldl (fun s k=>s ||| O.getD k.toNat 0) s).testBit i) (ks.foldl (Rp.in1 O P x) p) (ks.foldl (Rq.in1 O Q x) q) (ks.foldl (Rt.in1 O T x) t)
 | [],s,p,q,t,_,_,h=>h
 | k::ks,s,p,q,t,ha,hL,h=>by
   unfold apart at ha;split at ha
   ·rename_i h0;have hk:=hL k (by simp);have e1:∀ (S:Rg α) (L:List α) (c:α),S.mul=R.mul→S.zero=R.zero→S.in1 O L x c k=R.mul c (L.getD k.toNat R.zero):=fun S L c hs hz=>by unfold Rg.in1;rw [if_pos h3,hs,hz]
    show Ln R a b ((ks.foldl (fun s k=>s ||| O.getD k.toNat 0) (s ||| O.getD k.toNat 0)).testBit i) (ks.foldl (Rp.in1 O P x) (Rp.in1 O P x p k)) (ks.foldl (Rq.in1 O Q x) (Rq.in1 O Q x q k)) (ks.foldl (Rt.in1 O T x) (Rt.in1 O T x t k));rw [e1 Rp P p hp zp,e1 Rq Q q hq zq,e1 Rt T t ht zt];refine ox C i O P Q T Rp Rq Rt hp hq ht zp zq zt x h3 ks _ _ _ _ ha (fun k' hk'=>hL k' (by simp [hk'])) ?_;rw [Nat.testBit_or];refine h.mul C hk fun hh=>?_;have h2:=congrArg (fun z=>z.testBit i) h0;simp only [Nat.testBit_and,Nat.zero_testBit,hh.1,hh.2,Bool.and_self] at h2;cases h2
   ·cases ha
theorem lin_or (C:CR R) (B:Bool) (O:List Nat) (P Q T:List α) (Rp Rq Rt:Rg α) (hp:Rp.add=R.add) (hq:Rq.add=R.add) (ht:Rt.add=R.add) (x:Nd) (h3:¬ (x.kind=1∨x.kind=3)) :
  ∀ (ks:List Int) (p q t:α),(∀ k∈ks,Ln R a b B (Rp.gap O P (O.getD P.length 0) k.toNat) (Rq.gap O Q (O.getD Q.length 0) k.toNat) (Rt.gap O T (O.getD T.length 0) k.toNat))→Ln R a b B p q t →
   Ln R a b B (ks.foldl (Rp.in1 O P x) p) (ks.foldl (Rq.in1 O Q x) q) (ks.foldl (Rt.in1 O T x) t)
 | [],p,q,t,_,h=>h
 | k::ks,p,q,t,hL,h=>by
   have e1:∀ (S:Rg α) (L:List α) (c:α),S.add=R.add→S.in1 O L x c k=R.add c (S.gap O L (O.getD L.length 0) k.toNat):=fun S L c hs=>by unfold Rg.in1;rw [if_neg h3,hs]
   show Ln R a b B (ks.foldl (Rp.in1 O P x) (Rp.in1 O P x p k)) (ks.foldl (Rq.in1 O Q x) (Rq.in1 O Q x q k)) (ks.foldl (Rt.in1 O T x) (Rt.in1 O T x t k));rw [e1 Rp P p hp,e1 Rq Q q hq,e1 Rt T t ht];exact lin_or C B O P Q T Rp Rq Rt hp hq ht x h3 ks _ _ _ (fun k' hk'=>hL k' (by simp [hk'])) (h.add C (hL k (by simp)))
theorem zjv {x:Nd} {n b:Int} (h:qK x n b=true) (h2:x.kind≠2):x.lit=0:=by
 unfold qK at h;by_cases h1:x.kind=0∨x.kind=1
 ·simp [h1] at h;exact h.2.1
 ·by_cases h3:x.kind=3∨x.kind=4
  ·simp [h1,h2,h3] at h;exact h.2
  ·simp [h1,h2,h3] at h
theorem ze5 {x:Nd} {n:Int} {k:Nat} (h:qK x n (k:Int)=true):∀ j∈x.ins,∃ m:Nat,j=(m:Int)∧m<k:=fun j hj=>by
 obtain ⟨a,ha,rfl⟩:=List.getElem_of_mem hj;obtain ⟨m,hm1,hm2⟩:=Go.Proofs.YtoljkoifgnmbgaaGreatDoor.formed_ins h a ha;exact ⟨m,by rw [← hm1];simp [List.getD,ha],hm2⟩
theorem zbl {x:Nd} {n b:Int} (h:qK x n b=true) (h2:x.kind=2):qi x.lit n=true∧x.ins=[]:=by
 unfold qK at h;simp [h2] at h;exact h.2
theorem lin_step (C:CR R) {N:Nt} (hv:zC N=true) (hd:qv N=true) (i:Nat) (hi:i<128) (k:Nat) (hk:k<N.l.length) (P Q T:List α) (lp:P.length=k) (lq:Q.length=k) (lt:T.length=k)
  (h:∀ j,j<k→Ln R a b (((own N.l).getD j 0).testBit i) (P.getD j R.zero) (Q.getD j R.zero) (T.getD j R.zero)) :
  Ln R a b (((own N.l).getD k 0).testBit i) ((R.wit (zW W ((i:Int)+1) a b)).step (own N.l) P N.l[k]) ((R.wit (zW W ((i:Int)+1) R.one R.zero)).step (own N.l) Q N.l[k]) ((R.wit (zW W ((i:Int)+1) R.zero R.one)).step (own N.l) T N.l[k]):=by
 have hfm:=yT hv k hk;have hmem:=ze5 hfm;have hb:=zex hv k hk i;have hLm:∀ j∈N.l[k].ins,Ln R a b (((own N.l).getD j.toNat 0).testBit i) (P.getD j.toNat R.zero) (Q.getD j.toNat R.zero) (T.getD j.toNat R.zero):=fun j hj=>by
  obtain ⟨m,rfl,hm⟩:=hmem j hj;exact h _ (by simpa using hm)
 by_cases h2:N.l[k].kind=2
 ·obtain ⟨hl,hin⟩:=zbl hfm h2;rw [hin,List.any_nil,Bool.or_false,zgT] at hb;unfold Rg.step;rw [hin,hb];show Ln R a b _ (Rg.start _ _) (Rg.start _ _) (Rg.start _ _);unfold Rg.start;rw [if_pos h2,if_pos h2,if_pos h2];show Ln R a b _ (zW W ((i:Int)+1) a b N.l[k].lit) (zW W ((i:Int)+1) R.one R.zero N.l[k].lit) (zW W ((i:Int)+1) R.zero R.one N.l[k].lit);obtain ⟨hn0,hn1,_,_⟩:=qD hv;have hr:=zcz hl;obtain ⟨l,hl'⟩:∃ l,N.l[k].lit=l:=⟨_,rfl⟩;rw [hl'] at hl hr ⊢;have hlv:zQ l=if 0<l then l else -l:=by unfold zQ;repeat' split <;> omega
  by_cases hp:l=(i:Int)+1
  ·subst hp;rw [decide_eq_true (by rw [hlv,if_pos (by omega)]),zer,zer,zer];unfold Ln;rw [if_pos rfl,C.mulo,C.mulz,C.addz]
  ·by_cases hm:l = -((i:Int)+1)
   ·subst hm;rw [decide_eq_true (by rw [hlv,if_neg (by omega)];omega),zdq _ _ _ _ (by omega),zdq _ _ _ _ (by omega),zdq _ _ _ _ (by omega)];unfold Ln;rw [if_pos rfl,C.mulo,C.mulz,C.zadd]
   ·rw [decide_eq_false (by rw [hlv];split <;> omega),zbp _ _ _ _ hp hm,zbp _ _ _ _ hp hm,zbp _ _ _ _ hp hm];exact Ln.same _
 ·have hl0:=zjv hfm h2;have hz:(qj 0 (zQ N.l[k].lit)).testBit i=false:=by rw [zgT,hl0];exact decide_eq_false (by show ¬ (0:Int)=_;omega)
  by_cases h3:N.l[k].kind=1∨N.l[k].kind=3
  ·have hap:apart (own N.l) 0 N.l[k].ins=true:=by
    rcases h3 with h1 | h3
    ·rcases zba hfm with ⟨_,h4⟩ | h4 | h4
     ·rw [List.length_eq_zero_iff.1 h4];rfl
     ·omega
     ·omega
    ·exact zfj _ _ k hk hd h3
   have key:=ox (a:=a) (b:=b) C i (own N.l) P Q T (R.wit (zW W ((i:Int)+1) a b)) (R.wit (zW W ((i:Int)+1) R.one R.zero)) (R.wit (zW W ((i:Int)+1) R.zero R.one)) rfl rfl rfl rfl rfl rfl N.l[k] h3 N.l[k].ins 0 R.one R.one R.one hap hLm
    (by rw [Nat.zero_testBit];exact Ln.same _)
   rw [zee,Nat.zero_testBit,Bool.false_or] at key;rw [hb,hz,Bool.false_or];have e:∀ S:Rg α,S.one=R.one→S.start N.l[k]=R.one:=fun S hS=>by unfold Rg.start;rw [if_neg h2,if_pos h3,hS]
   unfold Rg.step;rw [e (R.wit (zW W ((i:Int)+1) a b)) rfl,e (R.wit (zW W ((i:Int)+1) R.one R.zero)) rfl,e (R.wit (zW W ((i:Int)+1) R.zero R.one)) rfl];exact key
  ·have e:∀ S:Rg α,S.zero=R.zero→S.start N.l[k]=R.zero:=fun S hS=>by unfold Rg.start;rw [if_neg h2,if_neg h3,hS]
   unfold Rg.step;rw [e (R.wit (zW W ((i:Int)+1) a b)) rfl,e (R.wit (zW W ((i:Int)+1) R.one R.zero)) rfl,e (R.wit (zW W ((i:Int)+1) R.zero R.one)) rfl];refine lin_or C _ (own N.l) P Q T (R.wit (zW W ((i:Int)+1) a b)) (R.wit (zW W ((i:Int)+1) R.one R.zero)) (R.wit (zW W ((i:Int)+1) R.zero R.one)) rfl rfl rfl N.l[k] h3 N.l[k].ins _ _ _ (fun j hj=>?_) (Ln.zero C _);rw [lp,lq,lt];refine ov W C i hi (own N.l) P Q T _ _ (hLm j hj) fun hh=>zdF hv k hk j hj i hh
theorem zdr {α:Type} (f:List α→Nd→α) (d:α) (xs:List Nd) (k j:Nat) (h:k<xs.length) (hj:j<k):(scan f [] (xs.take (k+1))).getD j d=(scan f [] (xs.take k)).getD j d:=by
 rw [jf _ _ k h,List.getD_eq_getElem?_getD,List.getElem?_append_left (by rw [q7 _ _ _ (by omega)];exact hj),← List.getD_eq_getElem?_getD]
theorem oB (C:CR R) {N:Nt} (hv:zC N=true) (hd:qv N=true) (i:Nat) (hi:i<128):∀ (k:Nat),k≤N.l.length→∀ j,j<k →
  Ln R a b (((own N.l).getD j 0).testBit i) ((scan ((R.wit (zW W ((i:Int)+1) a b)).step (own N.l)) [] (N.l.take k)).getD j R.zero) ((scan ((R.wit (zW W ((i:Int)+1) R.one R.zero)).step (own N.l)) [] (N.l.take k)).getD j R.zero) ((scan ((R.wit (zW W ((i:Int)+1) R.zero R.one)).step (own N.l)) [] (N.l.take k)).getD j R.zero)
 | 0,_,j,hj=>absurd hj (by omega)
 | k+1,hk,j,hj=>by
   have ih:=oB C hv hd i hi k (by omega);rcases Nat.lt_or_ge j k with h1 | h1
   ·rw [zdr _ _ _ k j (by omega) h1,zdr _ _ _ k j (by omega) h1,zdr _ _ _ k j (by omega) h1];exact ih j h1
   ·obtain rfl:j=k:=by omega
    rw [jf _ _ j (by omega),jf _ _ j (by omega),jf _ _ j (by omega)];have hg:∀ (L:List α) (c:α),L.length=j→(L++[c]).getD j R.zero=c:=fun L c hL=>by
     rw [List.getD_eq_getElem?_getD,List.getElem?_append_right (by omega),hL,Nat.sub_self];rfl
    rw [hg _ _ (q7 _ _ _ (by omega)),hg _ _ (q7 _ _ _ (by omega)),hg _ _ (q7 _ _ _ (by omega))];exact lin_step W C hv hd i hi j (by omega) _ _ _ (q7 _ _ _ (by omega)) (q7 _ _ _ (by omega)) (q7 _ _ _ (by omega)) ih
theorem lin_sum (C:CR R) {N:Nt} (hv:zC N=true) (hd:qv N=true) (i:Nat) (hi:(i:Int)<N.n) (a b:α) :
  (R.wit (zW W ((i:Int)+1) a b)).sum N=R.add (R.mul a ((R.wit (zW W ((i:Int)+1) R.one R.zero)).sum N)) (R.mul b ((R.wit (zW W ((i:Int)+1) R.zero R.one)).sum N)):=by
 obtain ⟨hn0,hn1,hl0,hl1⟩:=qD hv;have h:=oB (a:=a) (b:=b) W C hv hd i (by omega) N.l.length (zi _) (N.l.length-1) (by omega);rw [List.take_length] at h;have h2:=ov W C i (by omega) (own N.l) _ _ _ (qs N.n) (N.l.length-1) h (fun hb=>by
  have:=zcn hv N.l.length (N.l.length-1) (by omega) (by omega) i hb;rw [zbm];simp;omega)
 rw [show (qs N.n).testBit i=true by rw [zbm];simp;omega] at h2;exact h2
end
end Cs
namespace Cs
section
variable {α:Type} (R:Rg α)
def Rg.sumTo (f:Nat→α):Nat→α
 | 0=>R.zero
 | m+1=>R.add (Rg.sumTo f m) (f m)
def Rg.ind (s:Nat):Int→α:=fun l=>if 0<l then (if s.testBit (l-1).toNat then R.one else R.zero) else (if s.testBit (-l-1).toNat then R.zero else R.one)
def Rg.mix (W:Int→α) (k s:Nat):Int→α:=fun l=>if 1≤l.natAbs∧l.natAbs≤k then R.ind s l else W l
def Rg.term (W:Int→α):Nat→Nat→α
 | 0,_=>R.one
 | k+1,s=>R.mul (Rg.term W k s) (if s.testBit k then W ((k:Int)+1) else W (-((k:Int)+1)))
def Rg.mult (N:Nt) (s:Nat):α:=(R.wit (R.ind s)).sum N
variable {R}
theorem zbR (f g:Nat→α):∀ m,(∀ i,i<m→f i=g i)→R.sumTo f m=R.sumTo g m
 | 0,_=>rfl
 | m+1,h=>by
   show R.add (R.sumTo f m) (f m)=R.add (R.sumTo g m) (g m);rw [zbR f g m fun i hi=>h i (by omega),h m (by omega)]
theorem zgt (C:CR R) (f:Nat→α) (m:Nat):∀ n,R.sumTo f (m+n)=R.add (R.sumTo f m) (R.sumTo (fun i=>f (m+i)) n)
 | 0=>(C.addz _).symm
 | n+1=>by
   show R.add (R.sumTo f (m+n)) (f (m+n))=R.add _ (R.add _ _);rw [zgt C f m n,C.adda]
theorem zhZ (C:CR R) (f g:Nat→α):∀ m,R.sumTo (fun i=>R.add (f i) (g i)) m=R.add (R.sumTo f m) (R.sumTo g m)
 | 0=>(C.zadd _).symm
 | m+1=>by
   show R.add (R.sumTo _ m) _=_;rw [zhZ C f g m];exact C.add4 _ _ _ _
theorem zhY (C:CR R) (c:α) (f:Nat→α):∀ m,R.sumTo (fun i=>R.mul c (f i)) m=R.mul c (R.sumTo f m)
 | 0=>(C.mulz _).symm
 | m+1=>by
   show R.add (R.sumTo _ m) _=R.mul c (R.add _ _);rw [zhY C c f m,C.dist]
theorem xM (C:CR R) (f:Nat→α) (k:Nat):R.sumTo f (2^(k+1))=R.sumTo (fun s=>R.add (f s) (f (s+2^k))) (2^k):=by
 rw [show 2^(k+1)=2^k+2^k by rw [Nat.pow_succ];omega,zgt C,← zhZ C];exact zbR _ _ _ fun i _=>by rw [Nat.add_comm (2^k) i]
theorem zkK {s k:Nat} (h:s<2^k):(s+2^k).testBit k=true∧s.testBit k=false∧∀ i,i<k→(s+2^k).testBit i=s.testBit i:=by
 refine ⟨?_,Nat.testBit_lt_two_pow h,fun i hi=>?_⟩
 ·rw [Nat.add_comm,Nat.testBit_two_pow_add_eq,Nat.testBit_lt_two_pow h];rfl
 ·rw [Nat.add_comm,Nat.testBit_two_pow_add_gt hi]
theorem zgq (W:Int→α):∀ (k s t:Nat),(∀ i,i<k→s.testBit i=t.testBit i)→R.term W k s=R.term W k t
 | 0,_,_,_=>rfl
 | k+1,s,t,h=>by
   show R.mul (R.term W k s) _=R.mul (R.term W k t) _;rw [zgq W k s t fun i hi=>h i (by omega),h k (by omega)]
theorem pG (s t k:Nat) (l:Int) (h:∀ i,i<k→s.testBit i=t.testBit i) (h1:1≤l.natAbs) (h2:l.natAbs≤k):R.ind s l=R.ind t l:=by
 unfold Rg.ind;by_cases h0:0<l
 ·rw [if_pos h0,if_pos h0,h (l-1).toNat (by omega)]
 ·rw [if_neg h0,if_neg h0,h (-l-1).toNat (by omega)]
theorem zdM (W V:Int→α) (h:∀ l,W l=V l):R.wit W=R.wit V:=by rw [show W=V from funext h]
theorem mix_step (C:CR R) {N:Nt} (hv:zC N=true) (hd:qv N=true) (W:Int→α) (k s:Nat) (hk:(k:Int)<N.n) (hs:s<2^k) :
  (R.wit (R.mix W k s)).sum N=R.add (R.mul (W (-((k:Int)+1))) ((R.wit (R.mix W (k+1) s)).sum N)) (R.mul (W ((k:Int)+1)) ((R.wit (R.mix W (k+1) (s+2^k))).sum N)):=by
 obtain ⟨b1,b2,b3⟩:=zkK hs;have h:=lin_sum (R.mix W k s) C hv hd k hk (W ((k:Int)+1)) (W (-((k:Int)+1)));have e0:R.wit (zW (R.mix W k s) ((k:Int)+1) (W ((k:Int)+1)) (W (-((k:Int)+1))))=R.wit (R.mix W k s):=zdM _ _ fun l=>by
  unfold zW Rg.mix;by_cases h1:l=(k:Int)+1
  ·rw [if_pos h1,if_neg (by omega),h1]
  ·by_cases h2:l = -((k:Int)+1)
   ·rw [if_neg h1,if_pos h2,if_neg (by omega),h2]
   ·rw [if_neg h1,if_neg h2]
 have e1:R.wit (zW (R.mix W k s) ((k:Int)+1) R.one R.zero)=R.wit (R.mix W (k+1) (s+2^k)):=zdM _ _ fun l=>by
  unfold zW Rg.mix;by_cases h1:l=(k:Int)+1
  ·rw [if_pos h1,if_pos (by omega)];unfold Rg.ind;rw [if_pos (by omega),show (l-1).toNat=k by omega,b1];rfl
  ·by_cases h2:l = -((k:Int)+1)
   ·rw [if_neg h1,if_pos h2,if_pos (by omega)];unfold Rg.ind;rw [if_neg (by omega),show (-l-1).toNat=k by omega,b1];rfl
   ·rw [if_neg h1,if_neg h2];by_cases h3:1≤l.natAbs∧l.natAbs≤k
    ·rw [if_pos h3,if_pos (by omega)];exact pG _ _ k l (fun i hi=>(b3 i hi).symm) h3.1 h3.2
    ·rw [if_neg h3,if_neg (by omega)]
 have e2:R.wit (zW (R.mix W k s) ((k:Int)+1) R.zero R.one)=R.wit (R.mix W (k+1) s):=zdM _ _ fun l=>by
  unfold zW Rg.mix;by_cases h1:l=(k:Int)+1
  ·rw [if_pos h1,if_pos (by omega)];unfold Rg.ind;rw [if_pos (by omega),show (l-1).toNat=k by omega,b2];rfl
  ·by_cases h2:l = -((k:Int)+1)
   ·rw [if_neg h1,if_pos h2,if_pos (by omega)];unfold Rg.ind;rw [if_neg (by omega),show (-l-1).toNat=k by omega,b2];rfl
   ·rw [if_neg h1,if_neg h2];by_cases h3:1≤l.natAbs∧l.natAbs≤k
    ·rw [if_pos h3,if_pos (by omega)]
    ·rw [if_neg h3,if_neg (by omega)]
 rw [e0,e1,e2] at h;rw [h,C.addc]
theorem ziB (C:CR R) {N:Nt} (hv:zC N=true) (hd:qv N=true) (W:Int→α):∀ k:Nat,(k:Int)≤N.n →
  (R.wit W).sum N=R.sumTo (fun s=>R.mul (R.term W k s) ((R.wit (R.mix W k s)).sum N)) (2^k)
 | 0,_=>by
   have e:R.wit (R.mix W 0 0)=R.wit W:=zdM _ _ fun l=>by unfold Rg.mix;rw [if_neg (by omega)]
   show _=R.add R.zero (R.mul R.one ((R.wit (R.mix W 0 0)).sum N));rw [C.zadd,C.omul,e]
 | k+1,hk=>by
   rw [ziB C hv hd W k (by omega),xM C];refine zbR _ _ _ fun s hs=>?_;obtain ⟨b1,b2,b3⟩:=zkK hs;have t1:R.term W (k+1) s=R.mul (R.term W k s) (W (-((k:Int)+1))):=by
    show R.mul _ (if s.testBit k then _ else _)=_;rw [b2];rfl
   have t2:R.term W (k+1) (s+2^k)=R.mul (R.term W k s) (W ((k:Int)+1)):=by
    show R.mul (R.term W k (s+2^k)) (if (s+2^k).testBit k then _ else _)=_;rw [b1,zgq W k (s+2^k) s b3];rfl
   show R.mul (R.term W k s) _=R.add (R.mul (R.term W (k+1) s) _) (R.mul (R.term W (k+1) (s+2^k)) _);rw [mix_step C hv hd W k s (by omega) hs,t1,t2,C.dist,C.mula,C.mula]
theorem wit_sum {N:Nt} (hv:zC N=true) (W V:Int→α) (h:∀ l,qi l N.n=true→W l=V l):(R.wit W).sum N=(R.wit V).sum N :=
 Rv.sum (r:=Eq) ⟨rfl,rfl,fun a b c d h1 h2=>by rw [h1,h2];rfl,fun a b c d h1 h2=>by rw [h1,h2];rfl,h,fun v h1 h2=>by
  obtain ⟨h3,h4⟩:=zlx h1 h2 (qD hv).2.1;show R.add _ _=R.add _ _;rw [h _ h3,h _ h4]⟩ hv
theorem expand (C:CR R) {N:Nt} (hv:zC N=true) (hd:qv N=true) (W:Int→α) (n:Nat) (hn:N.n=(n:Int)) :
  (R.wit W).sum N=R.sumTo (fun s=>R.mul (R.term W n s) (R.mult N s)) (2^n):=by
 rw [ziB C hv hd W n (by omega)];refine zbR _ _ _ fun s hs=>?_;congr 1;refine wit_sum hv _ _ fun l hl=>?_;have:=zcz hl;unfold Rg.mix;rw [if_pos (by omega)]
end
end Cs
end
