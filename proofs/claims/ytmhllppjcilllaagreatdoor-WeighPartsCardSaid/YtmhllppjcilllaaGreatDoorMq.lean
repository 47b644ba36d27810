import Derived.Test.YtmhllppjcilllaaGreatDoorEv
import Derived.Test.YtmhllppjcilllaaGreatDoorS1
import Derived.Test.YtmhllppjcilllaaGreatDoorMw
import Derived.Test.YtmhllppjcilllaaGreatDoorRf
set_option linter.unusedSimpArgs false
set_option linter.unusedVariables false
section
set_option maxRecDepth 100000
set_option maxRecDepth 100000
open Go Go.RowKit Cs
namespace Go.Proofs.YtmhllppjcilllaaGreatDoor
theorem eval_any (w:World) (N:Nt) (A:Option Addr) (c s:Nat) (hlen:N.l.length≤140737488355328) (hN:NtAt w w.heap.size A N.l) :
  Calls Tryz.prog 49 #[qB N A c,qk s] w fun e w'=>e = .returned (.bool (zE N&&qS N s))∧Below w.heap.size w w':=by
 by_cases hv:zE N=true
 ·rw [hv,Bool.true_and];exact eval_ok w N A c s hN hv
 ·have hv:zE N=false:=by simpa using hv
  rw [hv,Bool.false_and];have hck:=fun W h=>zaC W N A c hlen h;rw [show q8 N=1 by unfold q8;rw [hv];rfl] at hck;have HCK:=zc hck;have hbl:Below w.heap.size w ((w.alloc (.cells #[.int .i64 N.n,.slice A N.l.length c] 24)).alloc (.cells #[.int .u64 (lo s:Int),.int .u64 (hi s:Int)] 96)):=((zy _ _).alloc (zv _) _).alloc (by simp) _;clear hck;go_enter Tryz.func49, Tryz.ntmps49;go_wp2_with fail
  refine (HCK.out _ ((hN.below hbl).more hbl.size)).mono ?_;rintro e w5 ⟨rfl,hb5⟩;replace hbl:=zx hbl hb5 hbl.size;go_wp2;go_ret;exact ⟨rfl,hbl⟩
end Go.Proofs.YtmhllppjcilllaaGreatDoor
end
section
open Go Go.RowKit Cs
namespace Cs
def zP (p:Nat→Bool) (f:Nat→Pr) (z:Pr):Nat→Pr
 | 0=>z
 | k+1=>if p k=true then pq (qp (zP p f z k)+qp (f k)) else zP p f z k
theorem zcS {p:Nat→Bool} {f:Nat→Pr} {z:Pr} {k:Nat} (h:p k=true):zP p f z (k+1)=pq (qp (zP p f z k)+qp (f k)):=if_pos h
theorem zdo {p:Nat→Bool} {f:Nat→Pr} {z:Pr} {k:Nat} (h:p k=false):zP p f z (k+1)=zP p f z k:=if_neg (by rw [h];decide)
def qL (m:Nat) (f:Nat→Pr):List Pr:=(List.range m).map f
theorem ziU (m:Nat) (f:Nat→Pr):(qL m f).length=m:=by simp [qL]
theorem zgk (f:Nat→Pr) {m j:Nat} (h:j<m):(qL m f).getD j (0,0)=f j:=by
 unfold qL;rw [List.getD_eq_getElem?_getD,List.getElem?_map,List.getElem?_range h];rfl
theorem zet {m:Nat} {f g:Nat→Pr} (h:∀ j,j<m→f j=g j):qL m f=qL m g:=by
 unfold qL;exact List.map_congr_left fun j hj=>h j (List.mem_range.1 hj)
theorem rngP_set (f:Nat→Pr) (m j:Nat) (p:Pr):(qL m f).set j p=qL m (fun v=>if v=j then p else f v):=by
 refine List.ext_getElem? fun i=>?_;rw [List.getElem?_set];unfold qL;rw [List.getElem?_map,List.getElem?_map];by_cases hi:i<m
 ·rw [List.getElem?_range hi];by_cases hji:j=i
  ·subst hji;simp [hi]
  ·simp [hji,Ne.symm hji]
 ·rw [List.getElem?_eq_none (by simpa using hi:(List.range m).length≤i)];by_cases hji:j=i
  ·subst hji;simp [hi]
  ·simp [hji]
def yo (m j:Nat) (f g:Nat→Pr):List Pr:=qL m (fun v=>if v<j then f v else g v)
theorem zjs {m:Nat} {f g:Nat→Pr} (h:f 0=g 0):yo m 1 f g=qL m g:=zet fun v _=>by
 by_cases hv:v<1
 ·rw [if_pos hv,show v=0 by omega,h]
 ·rw [if_neg hv]
theorem zjv {m:Nat} {f g:Nat→Pr}:yo m m f g=qL m f:=zet fun v hv=>if_pos hv
theorem zju {m j:Nat} {f g:Nat→Pr} (h:j<m):(yo m j f g).getD j (0,0)=g j:=by
 unfold yo;rw [zgk _ h,if_neg (Nat.lt_irrefl _)]
theorem zjr {m j:Nat} {f g:Nat→Pr}:(yo m j f g).set j (f j)=yo m (j+1) f g:=by
 unfold yo;rw [rngP_set];refine zet fun v hv=>?_;by_cases h:v=j
 ·subst h;rw [if_pos rfl,if_pos (Nat.lt_succ_self _)]
 ·rw [if_neg h];by_cases h2:v<j
  ·rw [if_pos h2,if_pos (by omega)]
  ·rw [if_neg h2,if_neg (by omega)]
theorem zh3 {m j:Nat} {f g:Nat→Pr} (h:f j=g j):yo m j f g=yo m (j+1) f g:=zet fun v hv=>by
 by_cases h2:v<j
 ·rw [if_pos h2,if_pos (by omega)]
 ·rw [if_neg h2];by_cases h3:v=j
  ·subst h3;rw [if_pos (Nat.lt_succ_self _),h]
  ·rw [if_neg (by omega)]
theorem zjt {m j:Nat} {f g:Nat→Pr}:(yo m j f g).length=m:=ziU _ _
def lM (ev:Nat→Bool) (f:Nat→Pr) (k v:Nat):Pr:=if v=0 then (0,0) else zP (fun s=>ev s && !s.testBit (v-1)) f (0,0) k
def hM (ev:Nat→Bool) (f:Nat→Pr) (k v:Nat):Pr:=if v=0 then (0,0) else zP (fun s=>ev s&&s.testBit (v-1)) f (0,0) k
section
variable {ev:Nat→Bool} {f:Nat→Pr} {k v:Nat}
theorem oc (h:(ev k && !k.testBit (v-1))=false):lM ev f (k+1) v=lM ev f k v:=by
 unfold lM;rw [zdo h]
theorem og (h:(ev k&&k.testBit (v-1))=false):hM ev f (k+1) v=hM ev f k v:=by
 unfold hM;rw [zdo h]
theorem lM_yes (h0:v≠0) (h:(ev k && !k.testBit (v-1))=true):lM ev f (k+1) v=pq (qp (lM ev f k v)+qp (f k)):=by
 unfold lM;rw [if_neg h0,if_neg h0,zcS h]
theorem hM_yes (h0:v≠0) (h:(ev k&&k.testBit (v-1))=true):hM ev f (k+1) v=pq (qp (hM ev f k v)+qp (f k)):=by
 unfold hM;rw [if_neg h0,if_neg h0,zcS h]
theorem lM_none (h:ev k=false):lM ev f (k+1)=lM ev f k:=funext fun v=>oc (by rw [h];rfl)
theorem hM_none (h:ev k=false):hM ev f (k+1)=hM ev f k:=funext fun v=>og (by rw [h];rfl)
theorem zdw (m:Nat):∀ i,zB [] i=zB (qL m (lM ev f 0)) i∧zB [] i=zB (qL m (hM ev f 0)) i:=fun i=>by
 have e:∀ g:Nat→Pr,(∀ j,g j=(0,0))→zB [] i=zB (qL m g) i:=fun g hg=>by
  have e2:∀ j,(qL m g).getD j (0,0)=(0,0):=fun j=>by
   by_cases hj:j<m
   ·rw [zgk _ hj,hg]
   ·rw [List.getD_eq_getElem?_getD,List.getElem?_eq_none (by rw [ziU];omega)];rfl
  have e3:∀ j,([]:List Pr).getD j (0,0)=(0,0):=fun j=>rfl;unfold zB;simp only [e2,e3]
 exact ⟨e _ fun j=>by unfold lM zP;split <;> rfl,e _ fun j=>by unfold hM zP;split <;> rfl⟩
end
end Cs
namespace Go.Proofs.YtmhllppjcilllaaGreatDoor
structure MdS (V1:World) (q:List (Nat×TypeId×Nat×(Nat→Value))) (M b10 gL gH:Nat) (l h:List Pr) (t:Pr) (W:World):Prop where
 q:Kp V1 q W
 rt:W.rowIs b10 33 2 (qo t.1 t.2)
 rl:W.rowIs gL 33 (M*2) (zB l)
 rh:W.rowIs gH 33 (M*2) (zB h)
structure MdN (V1:World) (q:List (Nat×TypeId×Nat×(Nat→Value))) (b10 gL gH:Nat):Prop where
 h1:V1.heap.size≤b10
 h2:V1.heap.size≤gL
 h3:V1.heap.size≤gH
 n1:gL≠gH
 n2:b10≠gL
 n3:b10≠gH
 n4:∀ r∈q,r.1≠b10∧r.1≠gL∧r.1≠gH
theorem _root_.Go.Kp.put2 {w W:World} {l:List (Nat×TypeId×Nat×(Nat→Value))} {g i j:Nat} (h:Kp w l W) (hg:w.heap.size≤g) (hl:∀ r∈l,r.1≠g) (x y:Value):Kp w l ((W.setCell ⟨g,i,none⟩ x).setCell ⟨g,j,none⟩ y) :=
 ⟨(h.bl.setCell (p:=⟨g,i,none⟩) hg _).setCell (p:=⟨g,j,none⟩) hg _,fun r hr=>((h.rows r hr).setOther (hl r hr) _).setOther (hl r hr) _⟩
section
variable {V1 W W':World} {q:List (Nat×TypeId×Nat×(Nat→Value))} {M b10 gL gH:Nat} {l h:List Pr} {t:Pr}
theorem MdS.below (s:MdS V1 q M b10 gL gH l h t W) (hb:Below W.heap.size W W'):MdS V1 q M b10 gL gH l h t W':=⟨s.q.below hb,zh s.rt hb,zh s.rl hb,zh s.rh hb⟩
theorem MdS.add (s:MdS V1 q M b10 gL gH l h t W) {g n:Nat} {e:TypeId} {f:Nat→Value} (hr:W.rowIs g e n f):MdS V1 ((g,e,n,f)::q) M b10 gL gH l h t W:=⟨s.q.add hr,s.rt,s.rl,s.rh⟩
theorem MdS.tail {r:Nat×TypeId×Nat×(Nat→Value)} (s:MdS V1 (r::q) M b10 gL gH l h t W):MdS V1 q M b10 gL gH l h t W:=⟨⟨s.q.bl,fun x hx=>s.q.rows x (List.mem_cons_of_mem _ hx)⟩,s.rt,s.rl,s.rh⟩
theorem MdN.add (n:MdN V1 q b10 gL gH) {g k:Nat} {e:TypeId} {f:Nat→Value} (h:g≠b10∧g≠gL∧g≠gH):MdN V1 ((g,e,k,f)::q) b10 gL gH:=⟨n.h1,n.h2,n.h3,n.n1,n.n2,n.n3,fun r hr=>by
 rcases List.mem_cons.1 hr with rfl | hr
 ·exact h
 ·exact n.n4 r hr⟩
theorem MdS.setT (s:MdS V1 q M b10 gL gH l h t W) (n:MdN V1 q b10 gL gH) (p:Pr):MdS V1 q M b10 gL gH l h p ((W.setCell ⟨b10,0,none⟩ (.string (zb p.1))).setCell ⟨b10,1,none⟩ (.string (zb p.2))) :=
 ⟨s.q.put2 n.h1 (fun r hr=>(n.n4 r hr).1) _ _,(qx s.rt _ _).congr (ye _ _),
   (s.rl.setOther (Ne.symm n.n2) _).setOther (Ne.symm n.n2) _,(s.rh.setOther (Ne.symm n.n3) _).setOther (Ne.symm n.n3) _⟩
theorem MdS.setL (s:MdS V1 q M b10 gL gH l h t W) (n:MdN V1 q b10 gL gH) {k:Nat} (hk:k<l.length) (p:Pr):MdS V1 q M b10 gL gH (l.set k p) h t ((W.setCell ⟨gL,k*2,none⟩ (.string (zb p.1))).setCell ⟨gL,k*2+1,none⟩ (.string (zb p.2))) :=
 ⟨s.q.put2 n.h2 (fun r hr=>(n.n4 r hr).2.1) _ _,(s.rt.setOther n.n2 _).setOther n.n2 _,
   jD s.rl p k hk,(s.rh.setOther (Ne.symm n.n1) _).setOther (Ne.symm n.n1) _⟩
theorem MdS.setH (s:MdS V1 q M b10 gL gH l h t W) (n:MdN V1 q b10 gL gH) {k:Nat} (hk:k<h.length) (p:Pr):MdS V1 q M b10 gL gH l (h.set k p) t ((W.setCell ⟨gH,k*2,none⟩ (.string (zb p.1))).setCell ⟨gH,k*2+1,none⟩ (.string (zb p.2))) :=
 ⟨s.q.put2 n.h3 (fun r hr=>(n.n4 r hr).2.2) _ _,(s.rt.setOther n.n3 _).setOther n.n3 _,
   (s.rl.setOther n.n1 _).setOther n.n1 _,jD s.rh p k hk⟩
end
end Go.Proofs.YtmhllppjcilllaaGreatDoor
end
section
open Go Go.RowKit Cs
namespace Cs
def Bd (n m:Nat) (q:Rat):Prop:=∃ P,q=qq P (60^n)∧P≤m*360^n
theorem p60 (n:Nat):0<60^n:=Nat.pow_pos (by decide)
theorem Bd.one:Bd 0 1 (qp (1,1)):=⟨1,rfl,by decide⟩
theorem six {x:Nat} (h:x≤6):0<60 / qd x∧qd x*(60 / qd x)=60∧60 / qd x≤60:=by
 have:x=0∨x=1∨x=2∨x=3∨x=4∨x=5∨x=6:=by omega
 rcases this with rfl | rfl | rfl | rfl | rfl | rfl | rfl <;> decide
theorem Bd.mul {n m:Nat} {q:Rat} {p:Pr} (h:Bd n m q) (h1:p.1≤6) (h2:p.2≤6):Bd (n+1) m (q*qp p):=by
 obtain ⟨P,rfl,hP⟩:=h;obtain ⟨s1,s2,s3⟩:=six h2;refine ⟨P*p.1*(60 / qd p.2),?_,?_⟩
 ·show qq P (60^n)*qq p.1 p.2=_;rw [← zfE,qJ (p60 n),zd7 _ _ _ (Nat.mul_pos (p60 n) (yc _)) s1,Nat.mul_assoc (60^n),s2,← Nat.pow_succ]
 ·calc P*p.1*(60 / qd p.2)≤m*360^n*6*60:=Nat.mul_le_mul (Nat.mul_le_mul hP h1) s3
   _=m*360^(n+1):=by rw [Nat.mul_assoc,Nat.mul_assoc,Nat.pow_succ]
theorem Bd.add {n m m':Nat} {q q':Rat} (h:Bd n m q) (h':Bd n m' q'):Bd n (m+m') (q+q'):=by
 obtain ⟨P,rfl,hP⟩:=h;obtain ⟨P',rfl,hP'⟩:=h';exact ⟨P+P',zdp _ _ _ (p60 n),by rw [Nat.add_mul];exact Nat.add_le_add hP hP'⟩
theorem Bd.mono {n m m':Nat} {q:Rat} (h:Bd n m q) (hm:m≤m'):Bd n m' q:=by
 obtain ⟨P,h1,h2⟩:=h;exact ⟨P,h1,Nat.le_trans h2 (Nat.mul_le_mul_right _ hm)⟩
theorem Bd.zero {n:Nat}:Bd n 0 0:=⟨0,((zby 0 _).2 rfl).symm,Nat.zero_le _⟩
theorem two80 {x:Nat} (h:x≤256*360^8):x<2^qD:=by
 have h1:256*360^8<2^80:=by decide +kernel
 have h2:2^80≤2^qD:=Nat.pow_le_pow_right (by decide) (by rw [zf9];omega);omega
theorem Bd.sm {n m:Nat} {q:Rat} (h:Bd n m q) (hn:n≤8) (hm:m≤256):Sm qD q:=by
 obtain ⟨P,rfl,hP⟩:=h;have h360:360^n≤360^8:=Nat.pow_le_pow_right (by decide) hn;have h60:60^n≤60^8:=Nat.pow_le_pow_right (by decide) hn;refine Sm.of (two80 (Nat.le_trans hP (Nat.mul_le_mul hm h360))) ?_;rw [qJ (p60 n)];exact two80 (Nat.le_trans h60 (by decide +kernel))
section
variable {L H:List Pr} {a:Nat}
theorem wgt_qp (L H:List Pr) (a k:Nat):qp (z6 L H a (k+1))=qp (z6 L H a k)*qp (if a.testBit k then H.getD (k+1) (0,0) else L.getD (k+1) (0,0)):=zin (Rat.mul_nonneg (qX _) (qX _))
theorem jx (hL:∀ k,(L.getD k (0,0)).1≤6∧(L.getD k (0,0)).2≤6) (hH:∀ k,(H.getD k (0,0)).1≤6∧(H.getD k (0,0)).2≤6):∀ k,Bd k 1 (qp (z6 L H a k))
 | 0=>Bd.one
 | k+1=>by
   rw [wgt_qp];have h:=jx hL hH k;split
   ·exact h.mul (hH _).1 (hH _).2
   ·exact h.mul (hL _).1 (hL _).2
theorem wgt_Lp:∀ k,Lp (z6 L H a k)
 | 0=>Lp.one
 | k+1=>Lp.pq (Rat.mul_nonneg (qX _) (qX _))
theorem wgt_Sp (hL:∀ k,(L.getD k (0,0)).1≤6∧(L.getD k (0,0)).2≤6) (hH:∀ k,(H.getD k (0,0)).1≤6∧(H.getD k (0,0)).2≤6) {k:Nat} (hk:k≤8):Sp (z6 L H a k):=Sp.of (wgt_Lp k) ((jx hL hH k).sm hk (by decide))
end
section
variable {p:Nat→Bool} {f:Nat→Pr} {z:Pr} {n:Nat}
theorem zid (hz:Lp z):∀ k,Lp (zP p f z k)
 | 0=>hz
 | k+1=>by
   unfold zP;split
   ·exact Lp.pq (Rat.add_nonneg (qX _) (qX _))
   ·exact zid hz k
theorem gd (hz:qp z=0) (hf:∀ s,Bd n 1 (qp (f s))):∀ k,Bd n k (qp (zP p f z k))
 | 0=>by
   show Bd n 0 (qp z);rw [hz];exact Bd.zero
 | k+1=>by
   have h:=gd hz hf k;unfold zP;split
   ·rw [zin (Rat.add_nonneg (qX _) (qX _))];exact h.add (hf k)
   ·exact h.mono (Nat.le_succ k)
theorem sumP_Sp (hz:qp z=0) (hl:Lp z) (hf:∀ s,Bd n 1 (qp (f s))) (hn:n≤8) {k:Nat} (hk:k≤256):Sp (zP p f z k):=Sp.of (zid hl k) ((gd hz hf k).sm hn hk)
theorem zeF (hz:qp z=0):∀ k,qp (zP p f z k)=RQ.sumTo (fun s=>if p s=true then qp (f s) else 0) k
 | 0=>hz
 | k+1=>by
   have h:=zeF hz k;show _=RQ.sumTo _ k+(if p k=true then qp (f k) else 0);rw [← h];cases hp:p k
   ·rw [zdo hp,if_neg Bool.false_ne_true,Rat.add_zero]
   ·rw [zcS hp,if_pos rfl];exact zin (Rat.add_nonneg (qX _) (qX _))
theorem zgh {q:Nat→Bool}:∀ k,(∀ s,s<k→p s=q s)→zP p f z k=zP q f z k
 | 0,_=>rfl
 | k+1,h=>by
   unfold zP;rw [zgh k fun s hs=>h s (by omega),h k (by omega)]
theorem zjZ (hz:qp z=0) {y:Pr} (hy:qp y=0) {x:Pr} (hx:qp x=0) (q:Nat→Bool) (k:Nat):qp (zP p f z k)=qp (zP (fun s=>p s&&q s) f y k)+qp (zP (fun s=>p s && !q s) f x k):=by
 rw [zeF hz,zeF hy,zeF hx];show _=RQ.add (RQ.sumTo _ k) (RQ.sumTo _ k);rw [← zd3 CQ];refine zbh _ _ _ fun s _=>?_;show _=(if (p s&&q s)=true then _ else _)+(if (p s && !q s)=true then _ else _);cases p s <;> cases q s <;> simp [Rat.add_zero,Rat.zero_add]
end
section
variable {N:Nt}
theorem castQ (W:Int→Nat):(((((RN 0).wit W).sum N:Nat)):Rat)=(RQ.wit fun l=>((W l:Nat):Rat)).sum N:=by
 refine Rl.sum (R:=(RN 0).wit W) (S:=RQ.wit fun l=>((W l:Nat):Rat)) (r:=fun a q=>((a:Nat):Rat)=q) ?_ N;exact {
  zero:=rfl
  one:=rfl
  add:=by rintro a _ c _ rfl rfl;exact Rat.natCast_add _ _
  mul:=by rintro a _ c _ rfl rfl;exact Rat.natCast_mul _ _
  lit:=fun l=>rfl
  both:=fun v=>Rat.natCast_add _ _ }
theorem multQ (s:Nat):RQ.mult N s=((mlt N s:Nat):Rat):=by
 unfold mlt Rg.mult;rw [castQ];refine congrArg (fun V=>(RQ.wit V).sum N) (funext fun l=>?_);unfold Rg.ind;split <;> split <;> rfl
def yF (t:List Int) (s:Nat):Nat→Bool
 | 0=>true
 | k+1=>yF t s k&&(if s.testBit k then decide (-((k:Int)+1) ∉ t) else decide (((k:Int)+1) ∉ t))
variable {n:Nat} {lo hi:List Pr} {t:List Int}
theorem ziL (s:Nat):∀ k,k≤n→RQ.term (Wq n (qb n lo t) (qe n hi t)) k s=if yF t s k=true then qp (z6 lo hi s k) else 0
 | 0,_=>by
   show (1:Rat)=if true=true then qp (1,1) else 0
   rw [if_pos rfl];exact (qq_one 1).symm
 | k+1,hk=>by
   show RQ.term _ k s*(if s.testBit k then Wq n (qb n lo t) (qe n hi t) ((k:Int)+1) else Wq n (qb n lo t) (qe n hi t) (-((k:Int)+1)))=_;rw [ziL s k (by omega),wgt_qp];have e1:Wq n (qb n lo t) (qe n hi t) ((k:Int)+1)=if -((k:Int)+1)∈t then 0 else qp (hi.getD (k+1) (0,0)):=by
    unfold Wq;have:=plit_pos (n:=n) (lo:=qb n lo t) (hi:=qe n hi t) (v:=k+1) (by omega) hk;rw [Int.natCast_succ] at this;rw [this,zdn,if_pos (by omega),Int.natCast_succ];split
    ·exact qp_zero
    ·rfl
   have e2:Wq n (qb n lo t) (qe n hi t) (-((k:Int)+1))=if ((k:Int)+1)∈t then 0 else qp (lo.getD (k+1) (0,0)):=by
    unfold Wq;have:=plit_neg (n:=n) (lo:=qb n lo t) (hi:=qe n hi t) (v:=k+1) (by omega) hk;rw [Int.natCast_succ] at this;rw [this,zdm,if_pos (by omega),Int.natCast_succ];split
    ·exact qp_zero
    ·rfl
   rw [e1,e2];have e3:yF t s (k+1)=(yF t s k&&(if s.testBit k then decide (-((k:Int)+1) ∉ t) else decide (((k:Int)+1) ∉ t))):=rfl;rw [e3];by_cases h0:yF t s k=true
   ·rw [if_pos h0,h0,Bool.true_and];by_cases hb:s.testBit k=true
    ·rw [if_pos hb,if_pos hb,if_pos hb];by_cases ht : -((k:Int)+1)∈t
     ·rw [if_pos ht,decide_eq_false (fun h=>h ht),if_neg Bool.false_ne_true,Rat.mul_zero]
     ·rw [if_neg ht,decide_eq_true ht,if_pos rfl]
    ·rw [if_neg hb,if_neg hb,if_neg hb];by_cases ht:((k:Int)+1)∈t
     ·rw [if_pos ht,decide_eq_false (fun h=>h ht),if_neg Bool.false_ne_true,Rat.mul_zero]
     ·rw [if_neg ht,decide_eq_true ht,if_pos rfl]
   ·rw [if_neg h0,show yF t s k=false by simpa using h0,Bool.false_and,if_neg Bool.false_ne_true,Rat.zero_mul]
theorem zdN (ok:WtOk n (qb n lo t) (qe n hi t)) (hv:zE N=true) (hd:qc N=true) (hs:∀ s,qQ N s=true) (hn:N.n=(n:Int)) {z:Pr} (hz:qp z=0) :
  qp (zP (fun s=>qS N s&&yF t s n) (fun s=>z6 lo hi s n) z (2^n))=qp (trmS N n lo hi t):=by
 unfold trmS;rw [zhT ok,zhJ CQ hv hd _ n hn,zeF hz];refine zbh _ _ _ fun s _=>?_;show _=RQ.term _ n s*RQ.mult N s;rw [multQ,mlt_ev hv s (hs s),ziL s n (zv _)];cases qS N s <;> cases yF t s n <;> simp [b1,Rat.mul_zero,Rat.zero_mul,Rat.mul_one]
theorem zj5 (s:Nat):∀ k,yF [] s k=true
 | 0=>rfl
 | k+1=>by
   unfold yF;rw [zj5 s k];simp
theorem zj4 (s:Nat) {v:Nat} (hv:1≤v):∀ k,yF [-(v:Int)] s k=if v≤k then !s.testBit (v-1) else true
 | 0=>by rw [if_neg (by omega)];rfl
 | k+1=>by
   unfold yF;rw [zj4 s hv k];have h2:decide (((k:Int)+1) ∉ [-(v:Int)])=true:=decide_eq_true (by rw [List.mem_singleton];omega);rw [h2];by_cases hk:v=k+1
   ·subst hk;have h3:decide (-((k:Int)+1) ∉ [-((k+1:Nat):Int)])=false:=decide_eq_false (by rw [List.mem_singleton];omega);rw [h3,if_neg (show ¬ k+1≤k by omega),if_pos (Nat.le_refl (k+1)),Bool.true_and,Nat.add_sub_cancel];cases s.testBit k <;> rfl
   ·have h3:decide (-((k:Int)+1) ∉ [-(v:Int)])=true:=decide_eq_true (by rw [List.mem_singleton];omega);rw [h3];by_cases h4:v≤k
    ·rw [if_pos h4,if_pos (show v≤k+1 by omega)];cases s.testBit k <;> simp
    ·rw [if_neg h4,if_neg (show ¬ v≤k+1 by omega)];cases s.testBit k <;> rfl
theorem zdO (hW:WtIn n lo hi) (hb:¬ 16384<zJ lo n+zJ hi n) (hv:zE N=true) (hd:qc N=true) (hs:∀ s,qQ N s=true) (hn:N.n=(n:Int)) {z:Pr} (hz:qp z=0) :
  qp (zP (qS N) (fun s=>z6 lo hi s n) z (2^n))=qp ((RP n lo hi).sum N):=by
 have h:=zdN (t:=[]) (hW.okT hb []) hv hd hs hn hz;unfold trmS at h;rw [zhY hW.ll,j4 hW.lh] at h;rw [← h];exact congrArg qp (zgh _ fun s _=>by rw [zj5,Bool.and_true])
theorem zfH (hW:WtIn n lo hi) (hb:¬ 16384<zJ lo n+zJ hi n) (hv:zE N=true) (hd:qc N=true) (hs:∀ s,qQ N s=true) (hn:N.n=(n:Int)) {z:Pr} (hz:qp z=0) {v:Nat} (h1:1≤v) (h2:v≤n) :
  qp (zP (fun s=>qS N s && !s.testBit (v-1)) (fun s=>z6 lo hi s n) z (2^n))=qp ((yN N n lo hi n).getD v (0,0)):=by
 have h:=zdN (t:=[-(v:Int)]) (hW.okT hb _) hv hd hs hn hz;rw [zgz h1 h2];refine Eq.trans (congrArg qp (zgh _ fun s _=>?_)) h;show _=(qS N s&&yF [-(v:Int)] s n);rw [zj4 s h1 n,if_pos h2]
theorem zhA (hW:WtIn n lo hi) (hb:¬ 16384<zJ lo n+zJ hi n) (hv:zE N=true) (hd:qc N=true) (hs:∀ s,qQ N s=true) (hn:N.n=(n:Int)) {z:Pr} (hz:qp z=0) {v:Nat} (h1:1≤v) (h2:v≤n) :
  (yG N n lo hi n).getD v (0,0)=pq (qp (zP (fun s=>qS N s&&s.testBit (v-1)) (fun s=>z6 lo hi s n) z (2^n))):=by
 have hl:=zfH hW hb hv hd hs hn hz h1 h2;rw [zgz h1 h2] at hl;have ht:=zdO hW hb hv hd hs hn hz;have e:∀ a b:Rat,a+b-b=a:=fun a b=>by rw [Rat.sub_eq_add_neg,Rat.add_assoc,Rat.add_neg_cancel,Rat.add_zero]
 rw [zjz h1 h2,← hl,← ht,zjZ (p:=qS N) hz hz hz (fun s=>s.testBit (v-1)),e]
theorem zix (hW:WtIn n lo hi) (hb:¬ 16384<zJ lo n+zJ hi n) (hv:zE N=true) (hd:qc N=true) (hs:∀ s,qQ N s=true) (hn:N.n=(n:Int)) {z:Pr} (hz:qp z=0) {v:Nat} (h1:1≤v) (h2:v≤n) :
  qp (zP (fun s=>qS N s&&s.testBit (v-1)) (fun s=>z6 lo hi s n) z (2^n))=qp ((yG N n lo hi n).getD v (0,0)):=by
 rw [zhA hW hb hv hd hs hn hz h1 h2,zin (qX _)]
end
end Cs
end
