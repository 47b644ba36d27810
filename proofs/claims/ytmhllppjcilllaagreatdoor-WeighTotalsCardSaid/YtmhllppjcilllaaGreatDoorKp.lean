import Derived.Test.YtmhllppjcilllaaGreatDoorZa
import Derived.Test.YtmhllppjcilllaaGreatDoorBy
import Derived.Test.YtmhllppjcilllaaGreatDoorAw
import Derived.Test.YtmhllppjcilllaaGreatDoorLy
import Derived.Test.YtmhllppjcilllaaGreatDoorDl
import Derived.Laws.EntriesVeiled
import Derived.Test.YtmhllppjcilllaaGreatDoorNr
set_option linter.unusedSimpArgs false
set_option linter.unusedVariables false
section
end
section
open Go Go.RowKit Cs
namespace Cs
section
variable {N:Nt} {n:Nat} {lo hi:List Pr}
theorem ptext_lp {p:Pr} (h:Lp p):Go.Proofs.YtmhllppjcilllaaGreatDoor.ptext p.1 p.2=qtext (qp p):=by
 obtain ⟨h1,h2⟩:=h;unfold qp;rcases h2 with h2 | ⟨e1,e2⟩
 ·rw [← ptext_q,← h1,← h2]
 ·rw [e1,e2];decide +kernel
end
end Cs
end
section
open Go Go.RowKit Cs
namespace Cs
open Go.Proofs.YtmhllppjcilllaaGreatDoor
theorem prt_small (lw:Nat) (F:Nat→Nat) (v j:Nat):prt lw F v j≤6:=by
 unfold prt;split
 ·omega
 ·split <;> omega
theorem qq_parts (n d m:Nat) (h1:n≤m) (h2:d≤m) (hm:1≤m):(pq (qq n d)).1≤m∧(pq (qq n d)).2≤m:=by
 constructor
 ·show qn (qq n d)≤m;rw [qn_qq];exact Nat.le_trans (Nat.div_le_self _ _) h1
 ·show (qq n d).den≤m;rw [den_qq];refine Nat.le_trans (Nat.div_le_self _ _) ?_
  unfold qd;split <;> omega
theorem awl_parts (lw:Nat) (F:Nat→Nat) (v:Nat):(awl lw F v).1≤6∧(awl lw F v).2≤6:=qq_parts _ _ 6 (prt_small _ _ _ _) (prt_small _ _ _ _) (by decide)
theorem awh_parts (lw:Nat) (F:Nat→Nat) (v:Nat):(awh lw F v).1≤6∧(awh lw F v).2≤6:=qq_parts _ _ 6 (prt_small _ _ _ _) (prt_small _ _ _ _) (by decide)
theorem nd2_small {x m:Nat} (h:x≤7):nd 2 x≤3:=Nat.le_trans (nd_mono 2 (by decide) h) (by decide +kernel)
theorem pbits_small {p:Pr} (h1:p.1≤7) (h2:p.2≤7):pbits p≤6:=by
 unfold pbits;have a:=nd2_small (m:=0) h1;have b:nd 2 (qd p.2)≤3:=nd2_small (m:=0) (by unfold qd;split <;> omega);omega
theorem sumB_small {l:List Pr} (h:∀ k,pbits (l.getD k (0,0))≤6):∀ m,sumB l m≤6*m
 | 0=>zqn _
 | m+1=>by
   show sumB l m+_≤_;have:=sumB_small h m;have:=h (m+1);omega
theorem map_getD (f:Nat→Pr) (m k:Nat):((List.range m).map f).getD k (0,0)=if k<m then f k else (0,0):=rng_get f (0,0) m k
theorem small8 {x:Nat} (h:x≤6):n8 x≤40000:=Nat.le_trans (n8_64 (by omega)) (by decide)
theorem small_in {n:Nat} {f g:Nat→Pr} (hf:∀ v,Lp (f v)∧(f v).1≤6∧(f v).2≤6) (hg:∀ v,Lp (g v)∧(g v).1≤6∧(g v).2≤6):WtIn n ((List.range (n+1)).map f) ((List.range (n+1)).map g):=by
 have e:∀ (f:Nat→Pr),(∀ v,Lp (f v)∧(f v).1≤6∧(f v).2≤6)→∀ k,Lp (((List.range (n+1)).map f).getD k (0,0))∧S0 (((List.range (n+1)).map f).getD k (0,0)):=fun f hf k=>by
  rw [map_getD];split
  ·exact ⟨(hf k).1,small8 (hf k).2.1,small8 (hf k).2.2⟩
  ·exact ⟨Lp.zero,small8 (by omega),small8 (by omega)⟩
 exact ⟨by simp,by simp,fun k=>(e f hf k).1,fun k=>(e g hg k).1,(e f hf 0).2,(e g hg 0).2,fun k=>(e f hf k).2.sp,fun k=>(e g hg k).2.sp⟩
theorem aw_ok (lw:Nat) (F:Nat→Nat) (v:Nat):Lp (awl lw F v)∧(awl lw F v).1≤6∧(awl lw F v).2≤6:=⟨Lp.pq (qq_nonneg _ _),awl_parts lw F v⟩
theorem aw_okh (lw:Nat) (F:Nat→Nat) (v:Nat):Lp (awh lw F v)∧(awh lw F v).1≤6∧(awh lw F v).2≤6:=⟨Lp.pq (qq_nonneg _ _),awh_parts lw F v⟩
theorem aw_in (lw:Nat) (F:Nat→Nat) (n:Nat):WtIn n (awL lw F (n+1)) (awH lw F (n+1)):=small_in (aw_ok lw F) (aw_okh lw F)
theorem small_bits {n:Nat} {f g:Nat→Pr} (hn:n≤128) (hf:∀ v,(f v).1≤6∧(f v).2≤6) (hg:∀ v,(g v).1≤6∧(g v).2≤6):¬ 16384<sumB ((List.range (n+1)).map f) n+sumB ((List.range (n+1)).map g) n:=by
 have e:∀ (f:Nat→Pr),(∀ v,(f v).1≤6∧(f v).2≤6)→sumB ((List.range (n+1)).map f) n≤6*n:=fun f hf=>sumB_small (fun k=>by
  rw [map_getD];split
  ·exact pbits_small (Nat.le_trans (hf k).1 (by decide)) (Nat.le_trans (hf k).2 (by decide))
  ·exact pbits_small (by decide) (by decide)) n
 have a:=e f hf;have b:=e g hg;omega
theorem aw_bits (lw:Nat) (F:Nat→Nat) (n:Nat) (hn:n≤128):¬ 16384<sumB (awL lw F (n+1)) n+sumB (awH lw F (n+1)) n:=small_bits hn (awl_parts lw F) (awh_parts lw F)
theorem wfit_bits {N:Nt} {n:Nat} {lo hi:List Pr} (hb:¬ 16384<sumB lo n+sumB hi n):wfit N n lo hi=cchk N:=by
 unfold wfit;rw [if_neg hb];split
 ·rename_i h;exact h.symm
 ·rfl
section
variable {N:Nt} {n:Nat} {lo hi:List Pr}
theorem sum_sm (ok:WtOk n lo hi) (hv:vld N=true) (hd:dcmp N=true) (hs:shortB N=true) (hn:N.n=(n:Int)):Sm smB (qp ((RP n lo hi).sum N)):=by
 obtain ⟨hn0,hn1,hl0,hl1⟩:=vld_bounds hv
 have:=q_wide ok.wb hv hd hs hn N.l.length (zqn _) (N.l.length-1) (by omega) (allTo N.n) (fun x hx=>by
  have:=own_sub hv N.l.length (N.l.length-1) (by omega) (by omega) x hx;rw [allTo_bit]
  exact decide_eq_true (by omega)) 128
 rw [List.take_length,List.take_of_length_le (vl_length _)] at this;rw [RP_sum ok];exact this
theorem Sm.up {a b:Nat} {q:Rat} (h:Sm a q) (hab:a≤b):Sm b q:=⟨h.1,Nat.lt_of_lt_of_le h.2.1 (Nat.pow_le_pow_right (by decide) hab),Nat.lt_of_lt_of_le h.2.2 (Nat.pow_le_pow_right (by decide) hab)⟩
end
end Cs
end
section
open Go Go.RowKit Cs
namespace Cs
theorem heap_setSame {w w':World} {a:Addr} (v:Value) (h:w'.heap[a.block]?=w.heap[a.block]?):(w'.setCell a v).heap[a.block]?=(w.setCell a v).heap[a.block]?:=by
 unfold World.setCell;simp only [Array.getElem?_modify,h]
theorem bsetBoth {D:Nat} {w w':World} (h:Below D w w') (a:Addr) (v:Value):Below D (w.setCell a v) (w'.setCell a v) :=
 ⟨h.os,h.tape,h.output,by rw [size_setCell,size_setCell];exact h.size,fun k hk=>by
   by_cases e:k=a.block
   ·subst e;exact heap_setSame v (h.block _ hk)
   ·rw [Below.heap_setCell _ _ _ _ e,Below.heap_setCell _ _ _ _ e]
    exact h.block k hk⟩
theorem Bag.both {w wr:World} {D:Nat} {R:List (Nat×TypeId×Nat×Array Value)} (h:Bag w w D R wr) (b:Nat) (v:Value) (hR:∀ r∈R,r.1≠b):Bag (w.setCell ⟨b,0,none⟩ v) (w.setCell ⟨b,0,none⟩ v) D R (wr.setCell ⟨b,0,none⟩ v) :=
 ⟨fun r hr=>(h.rows r hr).setOther (hR r hr) _,bsetBoth h.base _ _,by rw [size_setCell];exact bsetBoth h.bl _ _,by rw [size_setCell];exact h.le,by rw [size_setCell];exact h.wD⟩
end Cs
end
section
open Go Go.RowKit Cs
namespace Go
structure Kp (w:World) (l:List (Nat×TypeId×Nat×(Nat→Value))) (W:World):Prop where
 bl:Below w.heap.size w W
 rows:∀ r∈l,W.rowIs r.1 r.2.1 r.2.2.1 r.2.2.2
section
variable {w W W':World} {l:List (Nat×TypeId×Nat×(Nat→Value))} {g n:Nat} {t:TypeId} {f:Nat→Value}
theorem Kp.nil (w:World):Kp w [] w:=⟨zqr _ _,fun _ h=>(nomatch h)⟩
theorem Kp.below (h:Kp w l W) (hb:Below W.heap.size W W'):Kp w l W':=⟨zqx h.bl hb h.bl.size,fun r hr=>rowBelow (h.rows r hr) hb⟩
theorem Kp.add (h:Kp w l W) (hr:W.rowIs g t n f):Kp w ((g,t,n,f)::l) W:=⟨h.bl,fun r hr'=>by
 rcases List.mem_cons.1 hr' with rfl | hr'
 ·exact hr
 ·exact h.rows r hr'⟩
theorem Kp.row (h:Kp w l W) (i:Nat) (hi:l[i]?=some (g,t,n,f)):W.rowIs g t n f:=h.rows _ (List.mem_of_getElem? hi)
theorem Kp.alloc (h:Kp w l W) (o:Obj):Kp w l (W.alloc o):=h.below ((zqr _ _).alloc (zqn _) _)
theorem Kp.new (h:Kp w l W) (cs:Array Value) (t:TypeId) (g k:Nat) (hg:W.heap.size=g) (hk:cs.size=k):Kp w ((g,t,k,arrF cs)::l) (W.alloc (.cells cs t)):=(h.alloc _).add (arrNew W cs t g k hg hk)
end
end Go
end
