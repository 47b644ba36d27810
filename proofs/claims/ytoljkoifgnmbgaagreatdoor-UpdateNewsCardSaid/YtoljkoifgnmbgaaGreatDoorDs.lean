import Derived.Test.YtoljkoifgnmbgaaGreatDoorD7
import Derived.Test.YtoljkoifgnmbgaaGreatDoorDl
import Derived.Test.YtoljkoifgnmbgaaGreatDoorS2
import Derived.WalkMore
set_option linter.unusedSimpArgs false
set_option linter.unusedVariables false
section
set_option maxRecDepth 100000
section
open Go Go.RowKit Cs
namespace Cs
abbrev Pr:=Nat×Nat
def qp (p:Pr):Rat:=qq p.1 p.2
def pq (q:Rat):Pr:=(qn q,q.den)
def padd (a b:Pr):Pr:=pq (qp a+qp b)
def pmul (a b:Pr):Pr:=pq (qp a*qp b)
def Lp (p:Pr):Prop:=Lt p.1 p.2
theorem Lp.zero:Lp (0,0):=Lt.zero
theorem Lp.pq {q:Rat} (h:0≤q):Lp (pq q):=Lt.can h
theorem qp_pq {q:Rat} (h:0≤q):qp (pq q)=q:=qq_can h
theorem qp_nonneg (p:Pr):0≤qp p:=qq_nonneg _ _
theorem qp_add (a b:Pr):qp (padd a b)=qp a+qp b:=qp_pq (Rat.add_nonneg (qp_nonneg a) (qp_nonneg b))
theorem qp_mul (a b:Pr):qp (pmul a b)=qp a*qp b:=qp_pq (Rat.mul_nonneg (qp_nonneg a) (qp_nonneg b))
theorem Lp_add (a b:Pr):Lp (padd a b):=Lp.pq (Rat.add_nonneg (qp_nonneg a) (qp_nonneg b))
theorem Lp_mul (a b:Pr):Lp (pmul a b):=Lp.pq (Rat.mul_nonneg (qp_nonneg a) (qp_nonneg b))
theorem qp_zero:qp (0,0)=0:=(qq_zero_iff 0 0).2 rfl
theorem qp_one:qp (1,1)=1:=by decide +kernel
theorem Lp.one:Lp (1,1):=by
 have h:Cs.pq 1=(1,1):=by decide +kernel
 rw [← h];exact Lp.pq (by decide +kernel)
def Sp (p:Pr):Prop:=n8 p.1≤100000∧n8 p.2≤100000
theorem n8_sm (V:Nat) (h:V<2^smB):n8 V≤100000:=n8_pow V smB 100000 h (by have:=smB_le;omega)
theorem Sp.of {p:Pr} (h:Lp p) (hs:Sm smB (qp p)):Sp p:=by
 obtain ⟨h1,h2⟩:=h;obtain ⟨_,s1,s2⟩:=hs
 constructor
 ·refine n8_sm _ ?_
  rw [h1];exact s1
 ·rcases h2 with h2 | ⟨_,h2⟩
  ·refine n8_sm _ ?_
   rw [h2];exact s2
  ·rw [h2,n8_zero];omega
theorem Sp.zero:Sp (0,0):=by constructor <;> (show n8 0≤_;rw [n8_zero];omega)
def prsF (L:List Pr) (j:Nat):Value:=.string (natB (if j%2=0 then (L.getD (j / 2) (0,0)).1 else (L.getD (j / 2) (0,0)).2))
theorem prsF_0 (L:List Pr) (k:Nat):prsF L (k*2) = .string (natB (L.getD k (0,0)).1):=by
 unfold prsF;rw [if_pos (by omega),show k*2 / 2=k by omega]
theorem prsF_1 (L:List Pr) (k:Nat):prsF L (k*2+1) = .string (natB (L.getD k (0,0)).2):=by
 unfold prsF;rw [if_neg (by omega),show (k*2+1) / 2=k by omega]
theorem prsNext {w:World} {g n:Nat} {t:TypeId} {L:List Pr} (h:w.rowIs g t (n*2) (prsF L)) (p:Pr) (k:Nat) (hk:k=L.length) :
  ((w.setCell ⟨g,k*2,none⟩ (.string (natB p.1))).setCell ⟨g,k*2+1,none⟩ (.string (natB p.2))).rowIs g t (n*2) (prsF (L++[p])):=by
 subst hk;refine ((h.set _ _).set _ _).congr fun i hi=>?_
 have e:∀ j,(L++[p]).getD j (0,0)=if j=L.length then p else L.getD j (0,0):=fun j=>by
  rw [List.getD_eq_getElem?_getD,List.getD_eq_getElem?_getD];split
  ·rename_i h1;rw [h1,List.getElem?_append_right (zqn _)];simp
  ·rename_i h1;rcases Nat.lt_or_ge j L.length with h2 | h2
   ·rw [List.getElem?_append_left h2]
   ·rw [List.getElem?_append_right h2,List.getElem?_eq_none (by simp;omega),List.getElem?_eq_none (by omega)]
 by_cases h1:i=L.length*2+1
 ·subst h1;rw [if_pos rfl,prsF_1,e,if_pos rfl]
 ·rw [if_neg h1];by_cases h2:i=L.length*2
  ·subst h2;rw [if_pos rfl,prsF_0,e,if_pos rfl]
  ·rw [if_neg h2]
   have h3:¬ i / 2=L.length:=by omega
   unfold prsF;simp only [e,h3,if_false]
theorem prsMade (w:World) (m:Nat) (t:TypeId) (g:Nat) (hg:w.heap.size=g):(w.alloc (.cells (madeCells #[.string ⟨#[]⟩,.string ⟨#[]⟩] (m*2)) t)).rowIs g t (m*2) (prsF []):=by
 subst hg
 have h:=World.rowIs_alloc w (madeCells #[.string ⟨#[]⟩,.string ⟨#[]⟩] (m*2)) t (prsF []) fun i hi=>by
  simp [size_madeCells] at hi;unfold madeCells prsF
  have h0:natB 0=⟨#[]⟩:=by simp [natB,n8_zero]
  have:i%2=0∨i%2=1:=by omega
  rcases this with h | h <;> simp [h,hi,h0]
 simpa [size_madeCells] using h
end Cs
namespace Go.Proofs.YtoljkoifgnmbgaaGreatDoor
theorem one_any (w:World):Calls Tryz.prog 73 #[] w fun e w'=>e = .returned (ratV 1 1)∧Below w.heap.size w w':=by
 have hr:=ratZero w 60 _ rfl;have hbel:=(Below.refl w.heap.size w).alloc (zqn _) (.cells #[.string ⟨#[]⟩,.string ⟨#[]⟩] 60)
 go_enter Tryz.func73, Tryz.ntmps73
 go_wp2_with (
  go_at_call 45
  (with_reducible refine (qof_one _).mono ?_)
  rintro e w1 ⟨rfl,hb1⟩;have hz1:=hb1.size;simp at hz1;replace hr:=(rowBelow hr hb1).alloc (.cells #[.string (natB 1),.string (natB 1)] 60);obtain ⟨c0,c1⟩:=ratCells hr;have f0:=hr.frozen 0;have f1:=hr.frozen 1
  replace hbel:=(hbel.trans (hb1.mono (by simp))).alloc (by omega) (.cells #[.string (natB 1),.string (natB 1)] 60))
 exact ret_rat rfl 1 1 rfl (ratSet hr 1 1) rfl ⟨rfl,(hbel.setCell (by simp) _).setCell (by simp) _⟩
end Go.Proofs.YtoljkoifgnmbgaaGreatDoor
end
section
section
namespace Cs
def plit (n:Nat) (lo hi:List Pr) (l:Int):Pr:=if 1≤l.natAbs∧l.natAbs≤n then (if l<0 then lo.getD l.natAbs (0,0) else hi.getD l.natAbs (0,0)) else (0,0)
def RP (n:Nat) (lo hi:List Pr):Rg Pr:=⟨(0,0),(1,1),padd,pmul,plit n lo hi,fun v=>padd (plit n lo hi (-v)) (plit n lo hi v)⟩
def Wq (n:Nat) (lo hi:List Pr) (l:Int):Rat:=qp (plit n lo hi l)
def rpq (p:Pr) (q:Rat):Prop:=Lp p∧qp p=q
def S0 (p:Pr):Prop:=n8 p.1≤40000∧n8 p.2≤40000
structure WtOk (n:Nat) (lo hi:List Pr):Prop where
 ll:lo.length=n+1
 lh:hi.length=n+1
 pl:∀ k,Lp (lo.getD k (0,0))
 ph:∀ k,Lp (hi.getD k (0,0))
 l0:S0 (lo.getD 0 (0,0))
 h0:S0 (hi.getD 0 (0,0))
 bits:bitsW (Wq n lo hi) n≤wB
section
variable {n:Nat} {lo hi:List Pr}
theorem WtOk.lit (h:WtOk n lo hi) (l:Int):Lp (plit n lo hi l):=by
 unfold plit;split
 ·split
  ·exact h.pl _
  ·exact h.ph _
 ·exact Lp.zero
theorem WtOk.wb (h:WtOk n lo hi):Wb (Wq n lo hi) n where
 pos:=fun l=>qp_nonneg _
 out:=fun l hl=>by unfold Wq plit;rw [if_neg hl];exact qp_zero
 bits:=h.bits
theorem RP_rl (h:WtOk n lo hi):Rl (RP n lo hi) (RW (Wq n lo hi)) rpq where
 zero:=⟨Lp.zero,qp_zero⟩
 one:=⟨Lp.one,qp_one⟩
 add:=by rintro a _ c _ ⟨_,rfl⟩ ⟨_,rfl⟩;exact ⟨Lp_add a c,qp_add a c⟩
 mul:=by rintro a _ c _ ⟨_,rfl⟩ ⟨_,rfl⟩;exact ⟨Lp_mul a c,qp_mul a c⟩
 lit:=fun l=>⟨h.lit l,rfl⟩
 both:=fun v=>⟨Lp_add _ _,by
  show qp (padd (plit n lo hi (-v)) (plit n lo hi v))=Wq n lo hi v+Wq n lo hi (-v)
  rw [qp_add,Rat.add_comm];rfl⟩
theorem rpq.sp {p:Pr} {q:Rat} (h:rpq p q) (hs:Sm smB q):Sp p:=Sp.of h.1 (by rw [h.2];exact hs)
theorem p_both (h:WtOk n lo hi) (l:Int):Sp ((RP n lo hi).both l):=((RP_rl h).both l).sp (q_both h.wb l)
section
variable {N:Nt} (h:WtOk n lo hi) (hv:vld N=true) (hd:dcmp N=true) (hs:shortB N=true) (hn:N.n=(n:Int))
include h hv hd hs hn
theorem p_part (k:Nat) (hk:k<N.l.length) (m:Nat) :
  Sp ((N.l[k].ins.take m).foldl ((RP n lo hi).in1 (own N.l) (scan ((RP n lo hi).step (own N.l)) [] (N.l.take k)) N.l[k]) ((RP n lo hi).start N.l[k])) :=
 ((RP_rl h).fold ((RP_rl h).all (own N.l) (N.l.take k)) (own N.l) N.l[k] (N.l[k].ins.take m) _ _ ((RP_rl h).start N.l[k])).sp (q_part h.wb hv hd hs hn k hk m)
theorem p_wide (k:Nat) (hk:k≤N.l.length) (j:Nat) (hj:j<k) (all:Nat) (hall:∀ i,((own N.l).getD j 0).testBit i=true→all.testBit i=true) (m:Nat) :
  Sp ((RP n lo hi).wide ((scan ((RP n lo hi).step (own N.l)) [] (N.l.take k)).getD j (0,0)) ((vl (minus all ((own N.l).getD j 0))).take m)) :=
 ((RP_rl h).wide ((vl (minus all ((own N.l).getD j 0))).take m) _ _ (((RP_rl h).all (own N.l) (N.l.take k)).2 j)).sp (q_wide h.wb hv hd hs hn k hk j hj all hall m)
theorem p_at (k:Nat) (hk:k≤N.l.length) (j:Nat):Sp ((scan ((RP n lo hi).step (own N.l)) [] (N.l.take k)).getD j (0,0)):=by
 rcases Nat.lt_or_ge j k with hj | hj
 ·exact (((RP_rl h).all (own N.l) (N.l.take k)).2 j).sp (q_at h.wb hv hd hs hn k hk j hj)
 ·rw [List.getD_eq_getElem?_getD,List.getElem?_eq_none (by rw [scan_len _ _ _ hk];exact hj)];exact Sp.zero
end
end
end Cs
end
end
end
section
open Go Go.RowKit Cs
namespace Go.Proofs.YtoljkoifgnmbgaaGreatDoor
theorem info_rat:(Tryz.prog.info? 60).map (fun i=>(i.zero,i.size,i.bytes))=some (some (.agg #[.string ⟨#[]⟩,.string ⟨#[]⟩]),2,32):=by kernel_rfl
theorem mk_rat (n:Nat) (h:n≤1000000000) (u:World):(Instr.makeSlice 28 (.int .i64 (n:Int)) (.int .i64 (n:Int))).run Tryz.prog u =
  .ok (.slice (some ⟨u.heap.size,0,none⟩) n n) (u.alloc (.cells (madeCells #[.string ⟨#[]⟩,.string ⟨#[]⟩] (n*2)) 60)):=by
 obtain ⟨i0,hi,hz0,hz1,hz2⟩:=info_parts info_rat;have hr:=run_make (P:=Tryz.prog) u 28 60 i0 _ Tryz.underlying28 hi hz0 .i64 .i64 n n (by omega) (Int.le_refl _) (by rw [hz2];omega) (by omega);simp only [Int.toNat_natCast,hz1] at hr;exact hr
theorem mk_rat1 (n:Nat) (h:n≤10000000) (u:World):(Instr.makeSlice 28 (.int .i64 ((n:Int)+1)) (.int .i64 ((n:Int)+1))).run Tryz.prog u =
  .ok (.slice (some ⟨u.heap.size,0,none⟩) (n+1) (n+1)) (u.alloc (.cells (madeCells #[.string ⟨#[]⟩,.string ⟨#[]⟩] ((n+1)*2)) 60)):=mk_rat (n+1) (by omega) u
structure W1 (w0:World) (Al Ah:Option Addr) (cl ch n:Nat) (Bo:List Pr) (wr:World):Prop where
 wts:wr.rowIs w0.heap.size 30 2 (arrF #[.slice Al (n+1) cl,.slice Ah (n+1) ch])
 res:wr.rowIs (w0.heap.size+1) 60 2 (ratF 0 0)
 both:wr.rowIs (w0.heap.size+1+1) 60 ((n+1)*2) (prsF Bo)
 bb:wr.rowIs (w0.heap.size+1+1+1) 28 1 (fun _=>.slice (some ⟨w0.heap.size+1+1,0,none⟩) (n+1) (n+1))
 bl:Below w0.heap.size w0 wr
end Go.Proofs.YtoljkoifgnmbgaaGreatDoor
end
