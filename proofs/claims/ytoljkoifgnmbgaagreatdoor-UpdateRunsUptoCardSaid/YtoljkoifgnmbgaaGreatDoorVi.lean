import Derived.Test.YtoljkoifgnmbgaaGreatDoorVs
import Derived.Test.YtoljkoifgnmbgaaGreatDoorV2
import Derived.Test.YtoljkoifgnmbgaaGreatDoorHp
import Derived.WalkMore
import Derived.Test.YtoljkoifgnmbgaaGreatDoorVh
set_option linter.unusedSimpArgs false
set_option linter.unusedVariables false
section
set_option maxRecDepth 100000
set_option maxHeartbeats 4000000
open Go Go.RowKit Cs
namespace Go.Proofs.YtoljkoifgnmbgaaGreatDoor
theorem ziV (y:Nat) (hy:y<4294967296):bits .and .u64 (y:Int) 4294967295=(y:Int):=by
 show IntKind.u64.wrap ((BitVec.ofInt 64 (y:Int) &&& BitVec.ofInt 64 ((4294967295:Nat):Int)).toNat:Int)=_;rw [BitVec.toNat_and,ofInt_u64 y (by omega),ofInt_u64 4294967295 (by decide),show (4294967295:Nat)=2^32-1 from rfl,Nat.and_two_pow_sub_one_eq_mod,IntKind.wrap_u64];omega
theorem pv (w:World) (y:Nat) (hy:y<4294967296):Calls Tryz.prog 140 #[.int .u64 1,.int .u64 (y:Int)] w fun e w'=>e = .returned (.tuple #[.int .u64 0,.int .u64 (y:Int)])∧w=w':=by
 have h1:=ziV y hy;have h2:(y:Int) / 4294967296=0:=by omega
 have h3:IntKind.u64.wrap (y:Int)=(y:Int):=by rw [IntKind.wrap_u64];omega
 have h4:bits .and .u64 1 4294967295=1:=ziV 1 (by decide);have h5:bits .and .u64 0 4294967295=0:=ziV 0 (by decide);have h6:IntKind.u64.wrap 0=0:=by decide
 clear hy;go_enter Tryz.func140, Tryz.ntmps140;go_wp2_with fail
 go_ret2;exact ⟨by simp [h1,h2,h3,h4,h5,h6],rfl⟩
theorem mul_one (w:World) (y:Nat) (hy:y<4294967296):Calls Tryz.prog 93 #[.int .u64 1,.int .u64 (y:Int)] w fun e w'=>e = .returned (.tuple #[.int .u64 0,.int .u64 (y:Int)])∧w=w':=by
 have HM:=za (pv w y hy);clear hy;go_enter Tryz.func93, Tryz.ntmps93;go_wp2_with (go_at_call 140;(with_reducible refine HM.out.mono ?_);rintro e w9 ⟨rfl,rfl⟩)
 all_goals
  go_ret2;exact ⟨rfl,rfl⟩
theorem copyFill {P:Program} {w:World} {t:TypeId} (g N k cap cap':Nat) (dT elem ty:TypeId) (hu:P.underlying dT=some (.slice elem)) (hsz:(P.info? elem).map (·.size)=some 1) (x z:Value) (hx:x.oneCell'=true)
  (hrow:w.rowIs g t N (fun i=>if i<k then x else z)) (hk:k≤N) (m:Nat) (hm:m=Nat.min k (N-k)) :
  ∃ w',(Builtin.copy_ #[dT,dT] ty #[.slice (some ⟨g,k,none⟩) (N-k) cap,.slice (some ⟨g,0,none⟩) k cap']).run P w = .ok (goInt m) w'∧w'.rowIs g t N (fun i=>if i<k+m then x else z)∧w.grownBy w' (some g):=by
 have hmk:m≤k∧m≤N-k:=by
  rw [hm];exact ⟨Nat.min_le_left _ _,Nat.min_le_right _ _⟩
 have harr:=gp hrow;have hlen:(List.replicate m x).length=m:=List.length_replicate;have hrun:=run_copy_row (P:=P) w dT dT ty elem g k (N-k) cap ⟨g,0,none⟩ k cap' _ t (List.replicate m x) hu hsz harr (by rw [hlen,hm]) (fun j v hj=>by
  have hjm:j<m:=by
   rcases Nat.lt_or_ge j m with h | h
   ·exact h
   ·rw [List.getElem?_eq_none (by rw [hlen];exact h)] at hj;cases hj
  rw [List.getElem?_eq_getElem (by rw [hlen];exact hjm),List.getElem_replicate] at hj;injection hj with hj;subst hj;rw [show (⟨g,0,none⟩:Addr).add j=⟨g,j,none⟩ by unfold Addr.add;split <;> simp_all];rw [hrow.cell (i:=j) (by omega),if_pos (by omega)]) (by simp;omega) (fun v hv=>by rw [List.eq_of_mem_replicate hv];exact hx)
 rw [hlen] at hrun;refine ⟨_,hrun,?_,⟨rfl,rfl,rfl,by simp [World.setRow],fun b hb hne=>setRow_other w g b _ (fun e=>hne (by rw [e]))⟩⟩;refine ⟨_,setRow_heap w g _ _ t (0,0) harr,by simp;omega,fun i hi=>?_⟩;rw [List.getElem?_toArray];show _=some (if i<k+m then x else z);by_cases h1:i<k
 ·rw [if_pos (by omega:i<k+m),List.append_assoc,List.getElem?_append_left (by simp;omega),List.getElem?_take,if_pos h1];simp [hi,h1]
 ·by_cases h2:i<k+m
  ·rw [if_pos h2,List.append_assoc,List.getElem?_append_right (by simp;omega),List.getElem?_append_left (by simp;omega)];rw [List.getElem?_eq_getElem (by simp;omega),List.getElem_replicate]
  ·rw [if_neg h2,List.getElem?_append_right (by simp;omega),List.getElem?_drop];simp only [List.length_append,List.length_take,List.length_map,List.length_range,List.length_replicate,Nat.min_eq_left hk,List.toList_toArray];rw [show k+m+(i-(k+m))=i by omega];simp [hi,h1]
theorem xz {P:Program} {w w':World} {o:Oper} {a:Act} {K:Act→World→Prop} {Q:Exit→Act→World→Prop} {v:Value} (d s:Operand) (dT:TypeId) (ho:o.op = .call { callee:=.builtin .copy,args:=#[d,s],argTypes:=#[dT,dT] }) (x y:Value) (hd:a.eval d=x) (hs:a.eval s=y)
  (hrun:(Builtin.copy_ #[dT,dT] o.type #[x,y]).run P w = .ok v w') (h:K (a.put o.dst v) w'):Oper.wp P o a w K Q:=by
 unfold Oper.wp;simp [execOp,ho,resolve,invoke,builtin,hd,hs,hrun,Result.andThen];exact h
theorem oo (n:Nat) (h:n≤1000000) (u:World):(Instr.makeSlice 56 (.int .i64 (n:Int)) (.int .i64 (n:Int))).run Tryz.prog u =
  .ok (.slice (some ⟨u.heap.size,0,none⟩) n n) (u.alloc (.cells (madeCells #[.string ⟨#[]⟩] n) 54)):=by
 obtain ⟨i0,hi,hz0,hz1,hz2⟩:=info_parts zh0;have hr:=run_make (P:=Tryz.prog) u 56 54 i0 _ Tryz.underlying56 hi hz0 .i64 .i64 n n (by omega) (Int.le_refl _) (by rw [hz2];omega) (by omega);simp only [Int.toNat_natCast,hz1,Nat.mul_one] at hr;exact hr
theorem zlg (w:World) (g o c m:Nat) (h1:1≤m) (hm:m≤200) (hg:g<w.heap.size) (hc:w.cell? ⟨g,o,none⟩=some (.string (zb 1))) :
  Calls Tryz.prog 46 #[.slice (some ⟨g,o,none⟩) 1 c,.int .i64 (m:Int)] w fun e w'=>∃ r,e = .returned (.slice (some ⟨r,0,none⟩) m m)∧w.heap.size≤r∧w'.rowIs r 54 m (fun _=>.string (zb 1))∧Below w.heap.size w w':=by
 have HM:=za (mul_one w m (by omega));have hmk:=fun u=>oo m (by omega) u;have j1:¬ (m:Int)<0:=by omega
 have j2:¬ (9223372036854775807:Int)<(m:Int):=by omega
 have j3:IntKind.i64.wrap (m:Int)=(m:Int):=by rw [IntKind.wrap_i64];omega
 have j4:IntKind.u64.wrap (m:Int)=(m:Int):=by rw [IntKind.wrap_u64];omega
 have hrow:=jz w (.string ⟨#[]⟩) m 54 w.heap.size rfl (f:=fun _=>.string ⟨#[]⟩) (fun _ _=>rfl);have hbl:Below w.heap.size w (w.alloc (.cells (madeCells #[.string ⟨#[]⟩] m) 54)):=(zA _ _).alloc (zi _) _;have hsrc:∀ j,j<1→(w.alloc (.cells (madeCells #[.string ⟨#[]⟩] m) 54)).cell? ⟨g,o+j,none⟩=some ((fun _=>.string (zb 1):Nat→Value) j):=fun j hj=>by
  obtain rfl:j=0:=by omega
  exact zy hbl hc hg
 go_enter Tryz.func46, Tryz.ntmps46;go_wp2_with (first | (go_at_call 93;(with_reducible refine HM.out.mono ?_);rintro e w9 ⟨rfl,rfl⟩) | ((with_reducible refine zb2 rfl (.tmp 31) (.tmp 32) 56 56 rfl 54 Tryz.underlying56 zc4 w.heap.size m m 1 c (some ⟨g,o,none⟩) rfl rfl 54 m _ hrow (zi _) h1 (fun _=>.string (zb 1)) ?c1 ?c2 ?_);rotate_left;rotate_left;intro w3 hr3 hg3))
 case c1=>exact fun _=>⟨g,o,rfl,hsrc⟩
 case c2=>exact fun _ _=>rfl
 have hb3:Below w.heap.size w w3:=hbl.grown hg3 (by simp) (fun k e=>by cases e;omega);have hr4:w3.rowIs w.heap.size 54 m (fun i=>if i<1 then .string (zb 1) else .string ⟨#[]⟩):=hr3;obtain ⟨r,hrr⟩:∃ r,r=w.heap.size:=⟨_,rfl⟩;rw [← hrr] at hr4 ⊢;have HRR:=za hrr;clear hr3 hg3 hsrc hrow hbl hmk HM hc hrr;go_loopw [8] (fun t wr=>∃ k:Nat,t = .int .i64 (k:Int)∧1≤k∧k≤m∧wr.rowIs r 54 m (fun i=>if i<k then .string (zb 1) else .string ⟨#[]⟩)∧Below w.heap.size w wr) (fun t _=>m-(intOf t).toNat)
 case atStart=>exact ⟨1,rfl,zi _,h1,hr4,hb3⟩
 case round =>
 clear hr4 hb3;obtain ⟨k,rfl,hk1,hk,hr,hb⟩:=hrel;by_cases hlt:k<m
 ·have i1:(k:Int)<(m:Int):=by omega
  have i2:(0:Int)≤(k:Int):=by omega
  have i3:(k:Int)≤(m:Int):=by omega
  have i4:m-k≠0:=by omega
  have i5:m≠0:=by omega
  have i6:¬ m=k:=by omega
  go_wp2_with fail
  refine zaU (n:=_) (PX:=[zc (.int .i64 (k:Int)),
     zc (.slice (some ⟨r,0,none⟩) m m),
     zc (.int .i64 (k:Int)),
     zc (.slice (some ⟨r,k,none⟩) (m-k) (m-k)),
     zc (.slice (some ⟨r,0,none⟩) m m),
     zc (.int .i64 (k:Int)),
     zc (.slice (some ⟨r,0,none⟩) k m)])
    (AL:=[]) (DP:=[[],[],[],[1,2],[],[],[4,5]]) (L1:=[1,2,3,4,5,6]) (ex:=[0]) (by kernel_rfl) rfl (by kernel_rfl) (by kernel_rfl) (fun _ _ _ _ _ h=>h) ?_ ?_ ?_ ?_
  ·repeat' first|exact zO|refine ze ?_ ?_|exact fun _ _ _ _ h _=>h
  ·refine ze (zg rfl [] ?_) (ze (zg rfl [] ?_) (ze (zg rfl [(1,some 39),(2,some 40)] ?_) (ze (zg rfl [] ?_) (ze (zg rfl [] ?_) (ze (zg rfl [(4,some 42),(5,some 43)] ?_) zO)))));all_goals (intro vs W hW hd K hK;(try simp only [zR,zc,and_true,List.getD_cons_succ,List.getD_cons_zero] at hd);(first | simp only [hd,zo,Act.put,zx,zw,zv,zm,zl,zk] at hK ⊢ | simp only [zo,Act.put,zx,zw,zv,zm,zl,zk] at hK ⊢ | skip);go_simp;exact hK.out _ _ rfl (zA _ _) (qS rfl))
  ·refine ze ?_ zO
   ·refine YieldOk.intro rfl [] (by kernel_rfl) (fun _=>.int .i64 (k:Int)) rfl ?_;intro vs W hd;clear hd;refine ⟨rfl,fun w2=>?_⟩;try simp only [zo,Act.put,zx,zw,zv,zm,zl,zk]
    go_simp
  refine qT [(1,some 39),(2,some 40),(3,some 41),(4,some 42),(5,some 43),(6,some 44),(0,some 38)] #[true,true,true,true,true,true,true,false,false,false] 3 ?_;intro vs Wf hW hd hbk hdis kf;simp only [zR,zc,and_true,List.getD_cons_succ,List.getD_cons_zero] at hd;obtain ⟨d1,d2,d3,d4,d5,d6,d0⟩:=hd;clear hbk hdis;try simp only [d1,d2,d3,d4,d5,d6,d0,zo,Act.put,zx,zw,zv,zm,zl,zk]
  clear d1 d2 d3 d4 d5 d6 d0 vs;have qf:=zh hr hW;obtain ⟨m',hm'⟩:∃ m',m'=Nat.min k (m-k):=⟨_,rfl⟩;obtain ⟨w',hcp,hr',hg'⟩:=copyFill r m k (m-k) m 56 54 3 Tryz.underlying56 zc4 (.string (zb 1)) (.string ⟨#[]⟩) rfl qf hk m' hm';have hk':k<k+m'∧k+m'≤m:=by
   have g1:=Nat.min_le_right k (m-k);have g2:1≤Nat.min k (m-k):=Nat.le_min.2 ⟨by omega,by omega⟩;have g3:Nat.min k (m-k)≤m-k:=g1;rw [← hm'] at g2 g3;omega
  clear hm';have jw:IntKind.i64.wrap ((k:Int)+(m':Int))=((k+m':Nat):Int):=by rw [IntKind.wrap_i64];omega
  refine qt 7 (by kernel_rfl) rfl (fun K hK=>?_);rw [if_pos (show Region.wanted _ _=true from rfl)];refine xz (.tmp 41) (.tmp 44) 56 rfl _ _ rfl rfl hcp ?_;refine hK.out _ _ ?_;clear hK K;try simp only [zo,Act.put,zx,zw,zv,zm,zl,zk]
  refine qt 8 (by kernel_rfl) rfl (fun K hK=>?_);go_simp;refine hK.out _ _ ?_;clear hK K;try simp only [zo,Act.put,zx,zw,zv,zm,zl,zk]
  refine qt 9 (by kernel_rfl) rfl (fun K hK=>?_);go_simp;refine hK.out _ _ ?_;clear hK K;try simp only [zo,Act.put,zx,zw,zv,zm,zl,zk]
  refine qV (by kernel_rfl) ?_ _;all_goals
   try go_wp2
   go_roundw
   case rel=>exact ⟨k+m',rfl,by omega,hk'.2,hr',(zu hb hW hb.size).grown hg' (Nat.le_trans hb.size hW.size) (fun x e=>by cases e;rw [HRR.out];exact zi _)⟩
   case measure=>simp [intOf];omega
 ·obtain rfl:k=m:=by omega
  go_wp2_with fail
  go_ret;exact ⟨r,rfl,by rw [HRR.out];exact zi _,hr.congr fun i hi=>by rw [if_pos hi],hb⟩
end Go.Proofs.YtoljkoifgnmbgaaGreatDoor
end
section
open Go Go.RowKit Cs
namespace Go.Proofs.YtoljkoifgnmbgaaGreatDoor
structure NdS (W w:World) (D b:Nat) (F:Nat→Value) (x:Nd) (i k:Nat):Prop where
 kind:F (i*3) = .int .i64 x.kind
 lit:F (i*3+1) = .int .i64 x.lit
 ins:∃ A c,F (i*3+2) = .slice A x.ins.length c∧(i<k→RdK W (b+1) W.heap.size A x.ins.length (zJ x.ins))∧(k≤i→Rd w D A x.ins.length (zJ x.ins))
theorem NdS.start {w W:World} {N:Nt} {A:Option Addr} {b:Nat} (hN:NtAt w w.heap.size A N.l) (F:Nat→Value) (hF:∀ i,i<N.l.length*3→F i=jn w A i) (i:Nat) (h:i<N.l.length):NdS W w w.heap.size b F N.l[i] i 0:=by
 obtain ⟨b0,o,rfl,hB,hc⟩:=hN (by omega);obtain ⟨h1,h2,⟨A1,c1,h3,h4⟩,_,_,_,_⟩:=hc i h;refine ⟨?_,?_,A1,c1,?_,fun h=>absurd h (by omega),fun _=>h4⟩
 ·rw [hF _ (by omega)];show (w.cell? ⟨b0,o+i*3,none⟩).getD undef=_;rw [h1];rfl
 ·rw [hF _ (by omega)];show (w.cell? ⟨b0,o+(i*3+1),none⟩).getD undef=_;rw [show o+(i*3+1)=o+i*3+1 by omega,h2];rfl
 ·rw [hF _ (by omega)];show (w.cell? ⟨b0,o+(i*3+2),none⟩).getD undef=_;rw [show o+(i*3+2)=o+i*3+2 by omega,h3];rfl
def qb (F:Nat→Value) (i:Nat) (v:Value) (j:Nat):Value:=if j=i then v else F j
structure NwAt (w wr:World) (N:Nt) (A0:Option Addr) (c0:Nat) (Al Ah:Option Addr) (cl ch n b:Nat) (F:Nat→Value):Prop where
 b2:wr.rowIs w.heap.size 24 2 (ntF N A0 c0)
 b3:wr.rowIs (w.heap.size+1) 30 2 (zE #[.slice Al (n+1) cl,.slice Ah (n+1) ch])
 row:wr.rowIs b 65 20 F
 lb:w.heap.size+1<b
 bl:Below w.heap.size w wr
section
variable {w wr w':World} {N:Nt} {A0:Option Addr} {c0:Nat} {Al Ah:Option Addr} {cl ch n b:Nat} {F:Nat→Value}
theorem NwAt.below (h:NwAt w wr N A0 c0 Al Ah cl ch n b F) (hb:Below wr.heap.size wr w'):NwAt w w' N A0 c0 Al Ah cl ch n b F :=
 ⟨zh h.b2 hb,zh h.b3 hb,zh h.row hb,h.lb,zu h.bl hb h.bl.size⟩
theorem NwAt.set (h:NwAt w wr N A0 c0 Al Ah cl ch n b F) (i:Nat) (v:Value):NwAt w (wr.setCell ⟨b,i,none⟩ v) N A0 c0 Al Ah cl ch n b (qb F i v) :=
 ⟨h.b2.setOther (show w.heap.size≠b by have:=h.lb;omega) _,h.b3.setOther (show w.heap.size+1≠b by have:=h.lb;omega) _,h.row.set i v,h.lb,h.bl.setCell (p:=⟨b,i,none⟩) (show w.heap.size≤b by have:=h.lb;omega) _⟩
theorem NwAt.other (h:NwAt w wr N A0 c0 Al Ah cl ch n b F) {X:Nat} (hX:w.heap.size+1<X) (hb:b≠X) (i:Nat) (v:Value):NwAt w (wr.setCell ⟨X,i,none⟩ v) N A0 c0 Al Ah cl ch n b F :=
 ⟨h.b2.setOther (show w.heap.size≠X by omega) _,h.b3.setOther (show w.heap.size+1≠X by omega) _,h.row.setOther hb _,h.lb,h.bl.setCell (p:=⟨X,i,none⟩) (show w.heap.size≤X by omega) _⟩
theorem NwAt.lt (h:NwAt w wr N A0 c0 Al Ah cl ch n b F):b<wr.heap.size:=h.row.lt
end
def yZ (N:Nt) (A:Option Addr) (c:Nat):Array Value:=#[.int .i64 N.n,.slice A N.l.length c,.slice none 0 0,.slice none 0 0,.int .i64 0,.string ⟨#[]⟩,.nilFunc,.nilFunc,.slice none 0 0,.slice none 0 0,.slice none 0 0,.string ⟨#[]⟩,.string ⟨#[]⟩,.nilFunc,.nilFunc,.slice none 0 0,.slice none 0 0,.slice none 0 0,.slice none 0 0,.slice none 0 0]
structure KsAt (w wr:World) (N:Nt) (gN c b k:Nat):Prop where
 row:∃ G,wr.rowIs gN 76 (c*3) G∧∀ i (h:i<N.l.length),NdS wr w w.heap.size b G N.l[i] i k
 lo:w.heap.size+1<gN
 hi:gN<b
 le:N.l.length≤c
theorem KsAt.next {w wr w5:World} {N:Nt} {gN c b k:Nat} {A2:Option Addr} {c2:Nat} (hk:k<N.l.length) (h:KsAt w wr N gN c b k) (hbr:b<wr.heap.size) (hb:Below wr.heap.size wr w5) (hrd:RdK w5 wr.heap.size w5.heap.size A2 N.l[k].ins.length (zJ N.l[k].ins)) :
  KsAt w (w5.setCell ⟨gN,k*3+2,none⟩ (.slice A2 N.l[k].ins.length c2)) N gN c b (k+1):=by
 obtain ⟨G,hr,hnd⟩:=h.row;have hlt:=hr.lt;have hz:=hb.size;have hhi:=h.hi;have hag:∀ x,b+1≤x→(w5.setCell ⟨gN,k*3+2,none⟩ (.slice A2 N.l[k].ins.length c2)).heap[x]?=w5.heap[x]?:=fun x hx=>Below.heap_setCell w5 ⟨gN,k*3+2,none⟩ _ x (by intro e;simp at e;omega);refine ⟨⟨fun j=>if j=k*3+2 then .slice A2 N.l[k].ins.length c2 else G j,((zh hr hb).set (k*3+2) _).congr fun i _=>rfl,fun i hi=>?_⟩,h.lo,h.hi,h.le⟩;obtain ⟨h1,h2,A1,c1,h3,h4,h5⟩:=hnd i hi;by_cases hik:i=k
 ·subst hik;refine ⟨?_,?_,A2,c2,?_,fun _=>?_,fun hh=>absurd hh (by omega)⟩
  ·show (if i*3=i*3+2 then _ else _)=_;rw [if_neg (by omega)];exact h1
  ·show (if i*3+1=i*3+2 then _ else _)=_;rw [if_neg (by omega)];exact h2
  ·show (if i*3+2=i*3+2 then _ else _)=_;rw [if_pos rfl]
  ·rw [zf];exact (hrd.less (by omega)).agree fun x hx _=>hag x hx
 ·refine ⟨?_,?_,A1,c1,?_,fun hh=>?_,fun hh=>h5 (by omega)⟩
  ·show (if i*3=k*3+2 then _ else _)=_;rw [if_neg (by omega)];exact h1
  ·show (if i*3+1=k*3+2 then _ else _)=_;rw [if_neg (by omega)];exact h2
  ·show (if i*3+2=k*3+2 then _ else _)=_;rw [if_neg (by omega)];exact h3
  ·rw [zf];exact (((h4 (by omega)).below hb).more hz).agree fun x hx _=>hag x hx
theorem KsAt.net {w wr:World} {N:Nt} {A:Option Addr} {gN c b:Nat} (h:KsAt w wr N gN c b N.l.length) (hN:NtAt w w.heap.size A N.l):Rof wr w.heap.size wr.heap.size b fun W=>NtAt W W.heap.size (some ⟨gN,0,none⟩) N.l:=fun w' hs hb hn=>by
 obtain ⟨G,hr,hnd⟩:=h.row;obtain ⟨b0,o0,_,_,hcs⟩:=hN hn;have hlo:=h.lo;have hhi:=h.hi;have hle:=h.le;have hr':w'.rowIs gN 76 (c*3) G:=hr.of_block (hb gN (by omega) hr.lt (by omega));refine ⟨gN,0,rfl,hr'.lt,fun i hi=>?_⟩;obtain ⟨h1,h2,A1,c1,h3,h4,_⟩:=hnd i hi;obtain ⟨_,_,_,k1,k2,k3,k4⟩:=hcs i hi;refine ⟨?_,?_,⟨A1,c1,?_,((h4 hi).agree (w':=w') fun x hx1 hx2=>hb x (by omega) hx2 (by omega)).rd.more hs⟩,k1,k2,k3,k4⟩
 ·rw [Nat.zero_add,hr'.cell (by omega),h1]
 ·rw [Nat.zero_add,hr'.cell (by omega),h2]
 ·rw [Nat.zero_add,hr'.cell (by omega),h3]
theorem NaR.made (w:World) (m:Nat) (t:TypeId):NaR (w.alloc (.cells (madeCells #[.string ⟨#[]⟩] m) t)) w.heap.size t m m (List.replicate m 0) :=
 ⟨_,jz w (.string ⟨#[]⟩) m t w.heap.size rfl (f:=fun _=>.string ⟨#[]⟩) (fun _ _=>rfl),fun i hi=>by
   unfold qI;rw [List.getD_eq_getElem?_getD,List.getElem?_replicate,if_pos hi];show Value.string ⟨#[]⟩ = .string (zb 0);rw [yI]⟩
theorem PrR.made (w:World) (m:Nat) (t:TypeId):PrR (w.alloc (.cells (madeCells #[.string ⟨#[]⟩,.string ⟨#[]⟩] (m*2)) t)) w.heap.size t (m*2) m (List.replicate m (0,0)) :=
 ⟨_,prsMade w m t w.heap.size rfl,fun i hi=>by
   unfold zT;have e:∀ j,(List.replicate m ((0,0):Pr)).getD j (0,0)=(0,0):=fun j=>by
    rw [List.getD_eq_getElem?_getD,List.getElem?_replicate];split <;> rfl
   simp only [e];rfl⟩
theorem KsAt.below {w wr w':World} {N:Nt} {gN c b k:Nat} (h:KsAt w wr N gN c b k) (hb:Below wr.heap.size wr w'):KsAt w w' N gN c b k:=by
 obtain ⟨G,hr,hnd⟩:=h.row;refine ⟨⟨G,zh hr hb,fun i hi=>?_⟩,h.lo,h.hi,h.le⟩;obtain ⟨h1,h2,A1,c1,h3,h4,h5⟩:=hnd i hi;exact ⟨h1,h2,A1,c1,h3,fun hh=>((h4 hh).below hb).more hb.size,h5⟩
theorem zeH (w:World) (A:Option Addr) (c n:Nat) (L:List Pr) (hn:n≤1000) (hA:Rd w w.heap.size A ((n+1)*2) (zT L)) :
  Calls Tryz.prog 44 #[.slice A (n+1) c] w fun e w'=>(∃ g c',e = .returned (.slice (some ⟨g,0,none⟩) (n+1) c')∧w.heap.size≤g∧n+1≤c'∧PrR w' g 60 (c'*2) (n+1) L)∧Below w.heap.size w w':=by
 refine (zh7 w A c (n+1) (zT L) (by omega) (fun i _=>rfl) hA).mono ?_;rintro e w' ⟨A',c',rfl,h,hb⟩;obtain ⟨g,F,rfl,hg,hc,hr,hF⟩:=h (by omega);exact ⟨⟨g,c',rfl,hg,hc,F,hr,hF⟩,hb⟩
theorem ziG (w:World) (g n:Nat) (hn:n≤200) (hr:w.rowIs g 54 (n+1) (fun _=>.string (zb 1))) :
  Calls Tryz.prog 49 #[.slice (some ⟨g,0,none⟩) (n+1) (n+1)] w fun e w'=>(∃ g' c',e = .returned (.slice (some ⟨g',0,none⟩) (n+1) c')∧w.heap.size≤g'∧n+1≤c'∧NaR w' g' 54 c' (n+1) (List.replicate (n+1) 1))∧Below w.heap.size w w':=by
 refine (zh8 w (some ⟨g,0,none⟩) (n+1) (n+1) (fun _=>.string (zb 1)) (by omega) (fun i _=>rfl) (fun _=>⟨g,0,rfl,hr.lt,fun i hi=>by rw [Nat.zero_add];exact hr.cell hi⟩)).mono ?_;rintro e w' ⟨A',c',rfl,h,hb⟩;obtain ⟨g',F,rfl,hg,hc,hr,hF⟩:=h (by omega);rw [Nat.mul_one] at hr;exact ⟨⟨g',c',rfl,hg,hc,F,hr,fun i hi=>by
  rw [hF i hi];unfold qI;rw [List.getD_eq_getElem?_getD,List.getElem?_replicate,if_pos hi];rfl⟩,hb⟩
theorem zjh (w:World) (g n:Nat) (hn:n≤128) (hr:w.rowIs g 54 1 (zE #[.string (zb 1)])) :
  Calls Tryz.prog 46 #[.slice (some ⟨g,0,none⟩) 1 1,.int .i64 ((n:Int)+1)] w fun e w'=>(∃ r,e = .returned (.slice (some ⟨r,0,none⟩) (n+1) (n+1))∧w.heap.size≤r∧w'.rowIs r 54 (n+1) (fun _=>.string (zb 1)))∧Below w.heap.size w w':=by
 refine (zlg w g 0 1 (n+1) (by omega) (by omega) hr.lt (hr.cell (by decide))).mono ?_;rintro e w' ⟨r,rfl,h1,h2,h3⟩;exact ⟨⟨r,rfl,h1,h2⟩,h3⟩
structure NqAt (w wr:World) (N:Nt) (A0:Option Addr) (c0:Nat) (Al Ah:Option Addr) (cl ch n b:Nat) (F:Nat→Value) (E:Nat) (P:World→Prop):Prop where
 q:NwAt w wr N A0 c0 Al Ah cl ch n b F
 ro:Rof wr w.heap.size E b P
 bE:b<E
 eU:E≤wr.heap.size
section
variable {w wr w':World} {N:Nt} {A0:Option Addr} {c0:Nat} {Al Ah:Option Addr} {cl ch n b E:Nat} {F:Nat→Value} {P:World→Prop}
theorem NqAt.below (h:NqAt w wr N A0 c0 Al Ah cl ch n b F E P) (hb:Below wr.heap.size wr w'):NqAt w w' N A0 c0 Al Ah cl ch n b F E P :=
 ⟨h.q.below hb,h.ro.below (hb.mono h.eU),h.bE,Nat.le_trans h.eU hb.size⟩
theorem NqAt.set (h:NqAt w wr N A0 c0 Al Ah cl ch n b F E P) (i:Nat) (v:Value):NqAt w (wr.setCell ⟨b,i,none⟩ v) N A0 c0 Al Ah cl ch n b (qb F i v) E P :=
 ⟨h.q.set i v,h.ro.go (Nat.le_of_eq (zf _ _ _).symm) fun x _ _ hx=>Below.heap_setCell _ _ _ _ hx,h.bE,by rw [zf];exact h.eU⟩
theorem NqAt.bl (h:NqAt w wr N A0 c0 Al Ah cl ch n b F E P):Below w.heap.size w wr:=h.q.bl
end
theorem NaR.ones {w:World} {g n:Nat} {t:TypeId} (h:w.rowIs g t (n+1) (fun _=>.string (zb 1))):NaR w g t (n+1) (n+1) (List.replicate (n+1) 1):=⟨_,h,fun i hi=>by
 unfold qI;rw [List.getD_eq_getElem?_getD,List.getElem?_replicate,if_pos hi];rfl⟩
theorem _root_.Cs.NaR.put7 {w:World} {g b m n:Nat} {t:TypeId} {L:List Nat} (h:NaR w g t m n L) (hb:g≠b) {v1 v2 v3 v4 v5 v6 v7:Value} :
  NaR (((((((w.setCell ⟨b,11,none⟩ v1).setCell ⟨b,12,none⟩ v2).setCell ⟨b,13,none⟩ v3).setCell ⟨b,14,none⟩ v4).setCell ⟨b,15,none⟩ v5).setCell ⟨b,16,none⟩ v6).setCell ⟨b,17,none⟩ v7) g t m n L :=
 ((((((h.setOther (a:=⟨b,11,none⟩) hb _).setOther (a:=⟨b,12,none⟩) hb _).setOther (a:=⟨b,13,none⟩) hb _).setOther (a:=⟨b,14,none⟩) hb _).setOther (a:=⟨b,15,none⟩) hb _).setOther (a:=⟨b,16,none⟩) hb _).setOther (a:=⟨b,17,none⟩) hb _
theorem _root_.Cs.PrR.put7 {w:World} {g b m n:Nat} {t:TypeId} {L:List Pr} (h:PrR w g t m n L) (hb:g≠b) {v1 v2 v3 v4 v5 v6 v7:Value} :
  PrR (((((((w.setCell ⟨b,11,none⟩ v1).setCell ⟨b,12,none⟩ v2).setCell ⟨b,13,none⟩ v3).setCell ⟨b,14,none⟩ v4).setCell ⟨b,15,none⟩ v5).setCell ⟨b,16,none⟩ v6).setCell ⟨b,17,none⟩ v7) g t m n L :=
 ((((((h.setOther (a:=⟨b,11,none⟩) hb _).setOther (a:=⟨b,12,none⟩) hb _).setOther (a:=⟨b,13,none⟩) hb _).setOther (a:=⟨b,14,none⟩) hb _).setOther (a:=⟨b,15,none⟩) hb _).setOther (a:=⟨b,16,none⟩) hb _).setOther (a:=⟨b,17,none⟩) hb _
theorem twenty {P:Nat→Prop} (h0:P 0) (h1:P 1) (h2:P 2) (h3:P 3) (h4:P 4) (h5:P 5) (h6:P 6) (h7:P 7) (h8:P 8) (h9:P 9) (h10:P 10) (h11:P 11) (h12:P 12) (h13:P 13) (h14:P 14) (h15:P 15) (h16:P 16) (h17:P 17) (h18:P 18) (h19:P 19):∀ i,i<20→P i
 | 0,_=>h0 | 1,_=>h1 | 2,_=>h2 | 3,_=>h3 | 4,_=>h4 | 5,_=>h5 | 6,_=>h6 | 7,_=>h7 | 8,_=>h8 | 9,_=>h9
 | 10,_=>h10 | 11,_=>h11 | 12,_=>h12 | 13,_=>h13 | 14,_=>h14 | 15,_=>h15 | 16,_=>h16 | 17,_=>h17 | 18,_=>h18 | 19,_=>h19
 | _+20,h=>absurd h (by omega)
end Go.Proofs.YtoljkoifgnmbgaaGreatDoor
end
