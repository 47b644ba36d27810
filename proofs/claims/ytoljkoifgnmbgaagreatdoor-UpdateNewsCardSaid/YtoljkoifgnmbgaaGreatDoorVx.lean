import Derived.Test.YtoljkoifgnmbgaaGreatDoorVs
import Derived.Test.YtoljkoifgnmbgaaGreatDoorV2
import Derived.Test.YtoljkoifgnmbgaaGreatDoorHp
import Derived.WalkMore
set_option linter.unusedSimpArgs false
set_option linter.unusedVariables false
set_option maxRecDepth 100000
set_option maxHeartbeats 4000000
open Go Go.RowKit Cs
namespace Go.Proofs.YtoljkoifgnmbgaaGreatDoor
theorem u64_low (y:Nat) (hy:y<4294967296):bits .and .u64 (y:Int) 4294967295=(y:Int):=by
 show IntKind.u64.wrap ((BitVec.ofInt 64 (y:Int) &&& BitVec.ofInt 64 ((4294967295:Nat):Int)).toNat:Int)=_;rw [BitVec.toNat_and,ofInt_u64 y (by omega),ofInt_u64 4294967295 (by decide),show (4294967295:Nat)=2^32-1 from rfl,Nat.and_two_pow_sub_one_eq_mod,IntKind.wrap_u64];omega
theorem mul64_one (w:World) (y:Nat) (hy:y<4294967296):Calls Tryz.prog 140 #[.int .u64 1,.int .u64 (y:Int)] w fun e w'=>e = .returned (.tuple #[.int .u64 0,.int .u64 (y:Int)])∧w=w':=by
 have h1:=u64_low y hy
 have h2:(y:Int) / 4294967296=0:=by omega
 have h3:IntKind.u64.wrap (y:Int)=(y:Int):=by rw [IntKind.wrap_u64];omega
 have h4:bits .and .u64 1 4294967295=1:=u64_low 1 (by decide);have h5:bits .and .u64 0 4294967295=0:=u64_low 0 (by decide)
 have h6:IntKind.u64.wrap 0=0:=by decide
 clear hy
 go_enter Tryz.func140, Tryz.ntmps140
 go_wp2_with fail
 go_ret2
 exact ⟨by simp [h1,h2,h3,h4,h5,h6],rfl⟩
theorem mul_one (w:World) (y:Nat) (hy:y<4294967296):Calls Tryz.prog 93 #[.int .u64 1,.int .u64 (y:Int)] w fun e w'=>e = .returned (.tuple #[.int .u64 0,.int .u64 (y:Int)])∧w=w':=by
 have HM:=zqh (mul64_one w y hy);clear hy
 go_enter Tryz.func93, Tryz.ntmps93
 go_wp2_with (go_at_call 140;(with_reducible refine HM.out.mono ?_);rintro e w9 ⟨rfl,rfl⟩)
 all_goals
  go_ret2
  exact ⟨rfl,rfl⟩
theorem copyFill {P:Program} {w:World} {t:TypeId} (g N k cap cap':Nat) (dT elem ty:TypeId) (hu:P.underlying dT=some (.slice elem)) (hsz:(P.info? elem).map (·.size)=some 1) (x z:Value) (hx:x.oneCell'=true)
  (hrow:w.rowIs g t N (fun i=>if i<k then x else z)) (hk:k≤N) (m:Nat) (hm:m=Nat.min k (N-k)) :
  ∃ w',(Builtin.copy_ #[dT,dT] ty #[.slice (some ⟨g,k,none⟩) (N-k) cap,.slice (some ⟨g,0,none⟩) k cap']).run P w = .ok (goInt m) w'∧w'.rowIs g t N (fun i=>if i<k+m then x else z)∧w.grownBy w' (some g):=by
 have hmk:m≤k∧m≤N-k:=by
  rw [hm];exact ⟨Nat.min_le_left _ _,Nat.min_le_right _ _⟩
 have harr:=rowArr hrow;have hlen:(List.replicate m x).length=m:=List.length_replicate
 have hrun:=run_copy_row (P:=P) w dT dT ty elem g k (N-k) cap ⟨g,0,none⟩ k cap' _ t (List.replicate m x) hu hsz harr (by rw [hlen,hm]) (fun j v hj=>by
  have hjm:j<m:=by
   rcases Nat.lt_or_ge j m with h | h
   ·exact h
   ·rw [List.getElem?_eq_none (by rw [hlen];exact h)] at hj;cases hj
  rw [List.getElem?_eq_getElem (by rw [hlen];exact hjm),List.getElem_replicate] at hj;injection hj with hj;subst hj;rw [show (⟨g,0,none⟩:Addr).add j=⟨g,j,none⟩ by unfold Addr.add;split <;> simp_all]
  rw [hrow.cell (i:=j) (by omega),if_pos (by omega)]) (by simp;omega) (fun v hv=>by rw [List.eq_of_mem_replicate hv];exact hx)
 rw [hlen] at hrun;refine ⟨_,hrun,?_,⟨rfl,rfl,rfl,by simp [World.setRow],fun b hb hne=>setRow_other w g b _ (fun e=>hne (by rw [e]))⟩⟩;refine ⟨_,setRow_heap w g _ _ t (0,0) harr,by simp;omega,fun i hi=>?_⟩;rw [List.getElem?_toArray];show _=some (if i<k+m then x else z);by_cases h1:i<k
 ·rw [if_pos (by omega:i<k+m),List.append_assoc,List.getElem?_append_left (by simp;omega),List.getElem?_take,if_pos h1];simp [hi,h1]
 ·by_cases h2:i<k+m
  ·rw [if_pos h2,List.append_assoc,List.getElem?_append_right (by simp;omega),List.getElem?_append_left (by simp;omega)];rw [List.getElem?_eq_getElem (by simp;omega),List.getElem_replicate]
  ·rw [if_neg h2,List.getElem?_append_right (by simp;omega),List.getElem?_drop];simp only [List.length_append,List.length_take,List.length_map,List.length_range,List.length_replicate,Nat.min_eq_left hk,List.toList_toArray];rw [show k+m+(i-(k+m))=i by omega];simp [hi,h1]
theorem wpOp_copy {P:Program} {w w':World} {o:Oper} {a:Act} {K:Act→World→Prop} {Q:Exit→Act→World→Prop} {v:Value} (d s:Operand) (dT:TypeId) (ho:o.op = .call { callee:=.builtin .copy,args:=#[d,s],argTypes:=#[dT,dT] }) (x y:Value) (hd:a.eval d=x) (hs:a.eval s=y)
  (hrun:(Builtin.copy_ #[dT,dT] o.type #[x,y]).run P w = .ok v w') (h:K (a.put o.dst v) w'):Oper.wp P o a w K Q:=by
 unfold Oper.wp;simp [execOp,ho,resolve,invoke,builtin,hd,hs,hrun,Result.andThen];exact h
theorem mk_nats (n:Nat) (h:n≤1000000) (u:World):(Instr.makeSlice 56 (.int .i64 (n:Int)) (.int .i64 (n:Int))).run Tryz.prog u =
  .ok (.slice (some ⟨u.heap.size,0,none⟩) n n) (u.alloc (.cells (madeCells #[.string ⟨#[]⟩] n) 54)):=by
 obtain ⟨i0,hi,hz0,hz1,hz2⟩:=info_parts info_nat;have hr:=run_make (P:=Tryz.prog) u 56 54 i0 _ Tryz.underlying56 hi hz0 .i64 .i64 n n (by omega) (Int.le_refl _) (by rw [hz2];omega) (by omega);simp only [Int.toNat_natCast,hz1,Nat.mul_one] at hr;exact hr
theorem repeat_any (w:World) (g o c m:Nat) (h1:1≤m) (hm:m≤200) (hg:g<w.heap.size) (hc:w.cell? ⟨g,o,none⟩=some (.string (natB 1))) :
  Calls Tryz.prog 46 #[.slice (some ⟨g,o,none⟩) 1 c,.int .i64 (m:Int)] w fun e w'=>∃ r,e = .returned (.slice (some ⟨r,0,none⟩) m m)∧w.heap.size≤r∧w'.rowIs r 54 m (fun _=>.string (natB 1))∧Below w.heap.size w w':=by
 have HM:=zqh (mul_one w m (by omega));have hmk:=fun u=>mk_nats m (by omega) u
 have j1:¬ (m:Int)<0:=by omega
 have j2:¬ (9223372036854775807:Int)<(m:Int):=by omega
 have j3:IntKind.i64.wrap (m:Int)=(m:Int):=by rw [IntKind.wrap_i64];omega
 have j4:IntKind.u64.wrap (m:Int)=(m:Int):=by rw [IntKind.wrap_u64];omega
 have hrow:=rowMade w (.string ⟨#[]⟩) m 54 w.heap.size rfl (f:=fun _=>.string ⟨#[]⟩) (fun _ _=>rfl);have hbl:Below w.heap.size w (w.alloc (.cells (madeCells #[.string ⟨#[]⟩] m) 54)):=(zqr _ _).alloc (zqn _) _
 have hsrc:∀ j,j<1→(w.alloc (.cells (madeCells #[.string ⟨#[]⟩] m) 54)).cell? ⟨g,o+j,none⟩=some ((fun _=>.string (natB 1):Nat→Value) j):=fun j hj=>by
  obtain rfl:j=0:=by omega
  exact (hbl.cell (p:=⟨g,o+0,none⟩) hg).trans hc
 go_enter Tryz.func46, Tryz.ntmps46
 go_wp2_with (first | (go_at_call 93;(with_reducible refine HM.out.mono ?_);rintro e w9 ⟨rfl,rfl⟩) | ((with_reducible refine wpList_copy_row rfl (.tmp 31) (.tmp 32) 56 56 rfl 54 Tryz.underlying56 size_nat w.heap.size m m 1 c (some ⟨g,o,none⟩) rfl rfl 54 m _ hrow (zqn _) h1 (fun _=>.string (natB 1)) ?c1 ?c2 ?_);rotate_left;rotate_left;intro w3 hr3 hg3))
 case c1=>exact fun _=>⟨g,o,rfl,hsrc⟩
 case c2=>exact fun _ _=>rfl
 have hb3:Below w.heap.size w w3:=hbl.grown hg3 (by simp) (fun k e=>by cases e;omega);have hr4:w3.rowIs w.heap.size 54 m (fun i=>if i<1 then .string (natB 1) else .string ⟨#[]⟩):=hr3;obtain ⟨r,hrr⟩:∃ r,r=w.heap.size:=⟨_,rfl⟩;rw [← hrr] at hr4 ⊢;have HRR:=zqh hrr;clear hr3 hg3 hsrc hrow hbl hmk HM hc hrr
 go_loopw [8] (fun t wr=>∃ k:Nat,t = .int .i64 (k:Int)∧1≤k∧k≤m∧wr.rowIs r 54 m (fun i=>if i<k then .string (natB 1) else .string ⟨#[]⟩)∧Below w.heap.size w wr) (fun t _=>m-(intOf t).toNat)
 case atStart=>exact ⟨1,rfl,zqn _,h1,hr4,hb3⟩
 case round =>
 clear hr4 hb3;obtain ⟨k,rfl,hk1,hk,hr,hb⟩:=hrel;by_cases hlt:k<m
 ·have i1:(k:Int)<(m:Int):=by omega
  have i2:(0:Int)≤(k:Int):=by omega
  have i3:(k:Int)≤(m:Int):=by omega
  have i4:m-k≠0:=by omega
  have i5:m≠0:=by omega
  have i6:¬ m=k:=by omega
  go_wp2_with fail
  refine wp_region_props_late (n:=_) (PX:=[zqu (.int .i64 (k:Int)),
     zqu (.slice (some ⟨r,0,none⟩) m m),
     zqu (.int .i64 (k:Int)),
     zqu (.slice (some ⟨r,k,none⟩) (m-k) (m-k)),
     zqu (.slice (some ⟨r,0,none⟩) m m),
     zqu (.int .i64 (k:Int)),
     zqu (.slice (some ⟨r,0,none⟩) k m)])
    (AL:=[]) (DP:=[[],[],[],[1,2],[],[],[4,5]]) (L1:=[1,2,3,4,5,6]) (ex:=[0]) (by kernel_rfl) rfl (by kernel_rfl) (by kernel_rfl) (fun _ _ _ _ _ h=>h) ?_ ?_ ?_ ?_
  ·refine zqg ?_ (zqg ?_ (zqg ?_ (zqg ?_ (zqg ?_ (zqg ?_ (zqg ?_ zqi))))))
   iterate 7 exact fun _ _ _ _ h _=>h
  ·refine zqg ?_ (zqg ?_ (zqg ?_ (zqg ?_ (zqg ?_ (zqg ?_ zqi)))))
   ·refine zso rfl [] ?_;intro vs W hW hd K hK;clear hd
    try simp only [putsD,Act.put,zqa,zqb,zqc,zqd,zqe,zqf] at hK ⊢
    go_simp
    exact hK.out _ _ rfl (zqr _ _) (zqv rfl)
   ·refine zso rfl [] ?_;intro vs W hW hd K hK;clear hd
    try simp only [putsD,Act.put,zqa,zqb,zqc,zqd,zqe,zqf] at hK ⊢
    go_simp
    exact hK.out _ _ rfl (zqr _ _) (zqv rfl)
   ·refine zso rfl [(1,some 39),(2,some 40)] ?_;intro vs W hW hd K hK;have d1:vs 1 = .slice (some ⟨r,0,none⟩) m m:=hd 1 (by decide);have d2:vs 2 = .int .i64 (k:Int):=hd 2 (by decide);clear hd
    try simp only [d1,d2,putsD,Act.put,zqa,zqb,zqc,zqd,zqe,zqf] at hK ⊢
    go_simp
    exact hK.out _ _ rfl (zqr _ _) (zqv rfl)
   ·refine zso rfl [] ?_;intro vs W hW hd K hK;clear hd
    try simp only [putsD,Act.put,zqa,zqb,zqc,zqd,zqe,zqf] at hK ⊢
    go_simp
    exact hK.out _ _ rfl (zqr _ _) (zqv rfl)
   ·refine zso rfl [] ?_;intro vs W hW hd K hK;clear hd
    try simp only [putsD,Act.put,zqa,zqb,zqc,zqd,zqe,zqf] at hK ⊢
    go_simp
    exact hK.out _ _ rfl (zqr _ _) (zqv rfl)
   ·refine zso rfl [(4,some 42),(5,some 43)] ?_;intro vs W hW hd K hK;have d4:vs 4 = .slice (some ⟨r,0,none⟩) m m:=hd 4 (by decide);have d5:vs 5 = .int .i64 (k:Int):=hd 5 (by decide);clear hd
    try simp only [d4,d5,putsD,Act.put,zqa,zqb,zqc,zqd,zqe,zqf] at hK ⊢
    go_simp
    exact hK.out _ _ rfl (zqr _ _) (zqv rfl)
  ·refine zqg ?_ zqi
   ·refine YieldOk.intro rfl [] (by kernel_rfl) (fun _=>.int .i64 (k:Int)) rfl ?_;intro vs W hd;clear hd;refine ⟨rfl,fun w2=>?_⟩
    try simp only [putsD,Act.put,zqa,zqb,zqc,zqd,zqe,zqf]
    go_simp
  refine FinOk.intro [(1,some 39),(2,some 40),(3,some 41),(4,some 42),(5,some 43),(6,some 44),(0,some 38)] #[true,true,true,true,true,true,true,false,false,false] 3 (by kernel_rfl) (by kernel_rfl) (by kernel_rfl) ?_;intro vs Wf hW0 hd hbk hdis kf;have hW:=zqw hW0;have d1:vs 1 = .slice (some ⟨r,0,none⟩) m m:=hd 1 (by decide);have d2:vs 2 = .int .i64 (k:Int):=hd 2 (by decide);have d3:vs 3 = .slice (some ⟨r,k,none⟩) (m-k) (m-k):=hd 3 (by decide);have d4:vs 4 = .slice (some ⟨r,0,none⟩) m m:=hd 4 (by decide);have d5:vs 5 = .int .i64 (k:Int):=hd 5 (by decide);have d6:vs 6 = .slice (some ⟨r,0,none⟩) k m:=hd 6 (by decide);have d0:vs 0 = .int .i64 (k:Int):=hd 0 (by decide);clear hd hbk hdis hW0
  try simp only [d1,d2,d3,d4,d5,d6,d0,putsD,Act.put,zqa,zqb,zqc,zqd,zqe,zqf]
  clear d1 d2 d3 d4 d5 d6 d0 vs;have qf:=rowBelow hr hW;obtain ⟨m',hm'⟩:∃ m',m'=Nat.min k (m-k):=⟨_,rfl⟩;obtain ⟨w',hcp,hr',hg'⟩:=copyFill r m k (m-k) m 56 54 3 Tryz.underlying56 size_nat (.string (natB 1)) (.string ⟨#[]⟩) rfl qf hk m' hm'
  have hk':k<k+m'∧k+m'≤m:=by
   have g1:=Nat.min_le_right k (m-k);have g2:1≤Nat.min k (m-k):=Nat.le_min.2 ⟨by omega,by omega⟩;have g3:Nat.min k (m-k)≤m-k:=g1;rw [← hm'] at g2 g3;omega
  clear hm'
  have jw:IntKind.i64.wrap ((k:Int)+(m':Int))=((k+m':Nat):Int):=by rw [IntKind.wrap_i64];omega
  refine wpAny_one1 7 (by kernel_rfl) rfl (fun K hK=>?_);rw [if_pos (show Region.wanted _ _=true from rfl)];refine wpOp_copy (.tmp 41) (.tmp 44) 56 rfl _ _ rfl rfl hcp ?_;refine hK.out _ _ ?_;clear hK K
  try simp only [putsD,Act.put,zqa,zqb,zqc,zqd,zqe,zqf]
  refine wpAny_one1 8 (by kernel_rfl) rfl (fun K hK=>?_)
  go_simp
  refine hK.out _ _ ?_;clear hK K
  try simp only [putsD,Act.put,zqa,zqb,zqc,zqd,zqe,zqf]
  refine wpAny_one1 9 (by kernel_rfl) rfl (fun K hK=>?_)
  go_simp
  refine hK.out _ _ ?_;clear hK K
  try simp only [putsD,Act.put,zqa,zqb,zqc,zqd,zqe,zqf]
  refine wpAny_end (by kernel_rfl) ?_ _
  all_goals
   try go_wp2
   go_roundw
   case rel=>exact ⟨k+m',rfl,by omega,hk'.2,hr',(zqx hb hW hb.size).grown hg' (Nat.le_trans hb.size hW.size) (fun x e=>by cases e;rw [HRR.out];exact zqn _)⟩
   case measure=>simp [intOf];omega
 ·obtain rfl:k=m:=by omega
  go_wp2_with fail
  go_ret
  exact ⟨r,rfl,by rw [HRR.out];exact zqn _,hr.congr fun i hi=>by rw [if_pos hi],hb⟩
end Go.Proofs.YtoljkoifgnmbgaaGreatDoor
