import Derived.Test.YtmhllppjcilllaaGreatDoorRf
import Derived.Test.YtmhllppjcilllaaGreatDoorDh
set_option linter.unusedSimpArgs false
set_option linter.unusedVariables false
section
set_option maxRecDepth 100000
open Go Go.RowKit Cs
namespace Cs
def gk (L:List Rat) (i:Nat):Value:=if i / 2<L.length then rfF L i else .string ⟨#[]⟩
theorem rfF_in (L M:List Rat) (i:Nat) (h:L.getD (i / 2) 0=M.getD (i / 2) 0):rfF L i=rfF M i:=by unfold rfF;rw [h]
theorem rzMade (w:World) (m:Nat) (t:TypeId) (g:Nat) (hg:w.heap.size=g):(w.alloc (.cells (madeCells #[.string ⟨#[]⟩,.string ⟨#[]⟩] (m*2)) t)).rowIs g t (m*2) (gk []):=by
 subst hg;have h:=World.rowIs_alloc w (madeCells #[.string ⟨#[]⟩,.string ⟨#[]⟩] (m*2)) t (gk []) fun i hi=>by
  simp [size_madeCells] at hi;unfold madeCells gk;rw [if_neg (by simp)];have:i%2=0∨i%2=1:=by omega
  rcases this with h | h <;> simp [h,hi]
 simpa [size_madeCells] using h
section
variable {w:World} {g n:Nat} {t:TypeId} {L:List Rat}
theorem rzAt (h:w.rowIs g t (n*2) (gk L)) (k:Nat) (hk:k<L.length) (hn:k<n) :
  w.cell? ⟨g,k*2,none⟩=some (.string (zl (qn (L.getD k 0))))∧w.cell? ⟨g,k*2+1,none⟩=some (.string (zl (L.getD k 0).den)):=by
 have h1:=h.cell (i:=k*2) (by omega);have h2:=h.cell (i:=k*2+1) (by omega);unfold gk at h1 h2;rw [if_pos (by omega),gB] at h1;rw [if_pos (by omega),gA] at h2;exact ⟨h1,h2⟩
theorem rzPut (h:w.rowIs g t (n*2) (gk L)) (M:List Rat) (p:Rat) (k:Nat) (hM:∀ i,i≠k→M.getD i 0=L.getD i 0) (hk:M.getD k 0=p) (hl:∀ i,i≠k→(i<M.length↔i<L.length)) (hkl:k<M.length) :
  ((w.setCell ⟨g,k*2,none⟩ (.string (zl (qn p)))).setCell ⟨g,k*2+1,none⟩ (.string (zl p.den))).rowIs g t (n*2) (gk M):=by
 refine ((h.set _ _).set _ _).congr fun i hi=>?_;by_cases h1:i=k*2+1
 ·subst h1;rw [if_pos rfl];unfold gk;rw [if_pos (by omega),gA,hk]
 ·rw [if_neg h1];by_cases h2:i=k*2
  ·subst h2;rw [if_pos rfl];unfold gk;rw [if_pos (by omega),gB,hk]
  ·rw [if_neg h2];have h3:i / 2≠k:=by omega
   unfold gk;by_cases h4:i / 2<L.length
   ·rw [if_pos h4,if_pos ((hl _ h3).2 h4)];exact rfF_in _ _ _ (hM _ h3).symm
   ·rw [if_neg h4,if_neg (fun h=>h4 ((hl _ h3).1 h))]
theorem rzNext (h:w.rowIs g t (n*2) (gk L)) (p:Rat) (k:Nat) (hk:k=L.length) :
  ((w.setCell ⟨g,k*2,none⟩ (.string (zl (qn p)))).setCell ⟨g,k*2+1,none⟩ (.string (zl p.den))).rowIs g t (n*2) (gk (L++[p])):=by
 subst hk;refine rzPut h _ p _ (fun i hi=>?_) ?_ (fun i hi=>by simp;omega) (by simp)
 ·rw [List.getD_eq_getElem?_getD,List.getD_eq_getElem?_getD];rcases Nat.lt_or_ge i L.length with h2 | h2
  ·rw [List.getElem?_append_left h2]
  ·rw [List.getElem?_append_right h2,List.getElem?_eq_none (by simp;omega),List.getElem?_eq_none (by omega)]
 ·rw [List.getD_eq_getElem?_getD,List.getElem?_append_right (zv _)];simp
theorem rzLast {s:Rat} (h:w.rowIs g t (n*2) (gk (L++[s]))) (p:Rat) (k:Nat) (hk:k=L.length) :
  ((w.setCell ⟨g,k*2,none⟩ (.string (zl (qn p)))).setCell ⟨g,k*2+1,none⟩ (.string (zl p.den))).rowIs g t (n*2) (gk (L++[p])):=by
 subst hk;refine rzPut h _ p _ (fun i hi=>?_) ?_ (fun i hi=>by simp) (by simp)
 ·rw [List.getD_eq_getElem?_getD,List.getD_eq_getElem?_getD];rcases Nat.lt_or_ge i L.length with h2 | h2
  ·rw [List.getElem?_append_left h2,List.getElem?_append_left h2]
  ·rw [List.getElem?_append_right h2,List.getElem?_append_right h2,List.getElem?_eq_none (by simp;omega),List.getElem?_eq_none (by simp;omega)]
 ·rw [List.getD_eq_getElem?_getD,List.getElem?_append_right (zv _)];simp
end
end Cs
namespace Go.Proofs.YtmhllppjcilllaaGreatDoor
theorem xW:(Tryz.prog.info? 42).map (fun i=>(i.zero,i.size,i.bytes))=some (some (.agg #[.string ⟨#[]⟩,.string ⟨#[]⟩]),2,32):=by kernel_rfl
theorem mk_rfat (n:Nat) (h:n≤1000000000) (u:World):(Instr.makeSlice 45 (.int .i64 (n:Int)) (.int .i64 (n:Int))).run Tryz.prog u =
  .ok (.slice (some ⟨u.heap.size,0,none⟩) n n) (u.alloc (.cells (madeCells #[.string ⟨#[]⟩,.string ⟨#[]⟩] (n*2)) 42)):=by
 obtain ⟨i0,hi,hz0,hz1,hz2⟩:=info_parts xW;have hr:=run_make (P:=Tryz.prog) u 45 42 i0 _ Tryz.underlying45 hi hz0 .i64 .i64 n n (by omega) (Int.le_refl _) (by rw [hz2];omega) (by omega);simp only [Int.toNat_natCast,hz1] at hr;exact hr
theorem rone33 (w:World):Calls Tryz.prog 85 #[] w fun e w'=>e = .returned (yV 1)∧Below w.heap.size w w':=by
 have hr:=zI w #[.string ⟨#[]⟩,.string ⟨#[]⟩] 42 w.heap.size 2 rfl rfl;have hb:=(Below.refl w.heap.size w).alloc (zv _) (.cells #[.string ⟨#[]⟩,.string ⟨#[]⟩] 42);have y1:=hr.frozen 0;have y2:=hr.frozen 1;have z1:(w.alloc (.cells #[.string ⟨#[]⟩,.string ⟨#[]⟩] 42)).cell? ⟨w.heap.size,0,none⟩=some (.string ⟨#[]⟩):=hr.cell (i:=0) (by decide);have z2:(w.alloc (.cells #[.string ⟨#[]⟩,.string ⟨#[]⟩] 42)).cell? ⟨w.heap.size,1,none⟩=some (.string ⟨#[]⟩):=hr.cell (i:=1) (by decide);go_enter Tryz.func85, Tryz.ntmps85;go_wp2;refine zhj rfl rfl (zI w _ _ _ 2 rfl rfl) rfl ⟨?_,(Below.refl w.heap.size w).alloc (zv _) _⟩;have e1:qn (1:Rat)=1:=by decide
 have e2:(1:Rat).den=1:=rfl;unfold yV;rw [e1,e2,dec1]
end Go.Proofs.YtmhllppjcilllaaGreatDoor
end
section
set_option maxRecDepth 100000
set_option maxHeartbeats 4000000
open Go Go.RowKit Cs
namespace Go.Proofs.YtmhllppjcilllaaGreatDoor
def Pat (w:World):Prop:=∀ i,i<6→w.cell? ⟨0,i,none⟩=some (.int .u64 (yQ i:Int))
theorem Pat.below {w w':World} (h:Pat w) (hb:Below w.heap.size w w'):Pat w':=fun i hi=>(hb.cell (p:=⟨0,i,none⟩) (World.block_lt_of_cell? w _ (h i hi))).trans (h i hi)
theorem info_u64:(Tryz.prog.info? 64).map (fun i=>(i.zero,i.size,i.bytes))=some (some (.int .u64 0),1,8):=by kernel_rfl
theorem mk_u64 (n:Nat) (h:n≤1000000000) (u:World):(Instr.makeSlice 179 (.int .i64 (n:Int)) (.int .i64 (n:Int))).run Tryz.prog u =
  .ok (.slice (some ⟨u.heap.size,0,none⟩) n n) (u.alloc (.cells (madeCells #[.int .u64 0] n) 64)):=by
 obtain ⟨i0,hi,hz0,hz1,hz2⟩:=info_parts info_u64;have hr:=run_make (P:=Tryz.prog) u 179 64 i0 _ Tryz.underlying179 hi hz0 .i64 .i64 n n (by omega) (Int.le_refl _) (by rw [hz2];omega) (by omega);simp only [Int.toNat_natCast,hz1,Nat.mul_one] at hr;exact hr
theorem u64Made (w:World) (m:Nat) (t:TypeId):(w.alloc (.cells (madeCells #[.int .u64 0] m) t)).rowIs w.heap.size t m (qI fun _=>0):=by
 have h:=World.rowIs_alloc w (madeCells #[.int .u64 0] m) t (qI fun _=>0) fun i hi=>by
  simp [size_madeCells] at hi;unfold madeCells qI;simp [hi,Nat.mod_one]
 simpa [size_madeCells] using h
theorem zero129 (w:World):(w.alloc (.cells Tryz.zeroCells180 180)).rowIs w.heap.size 180 129 (qI fun _=>0):=by
 have e:Tryz.zeroCells180=Array.replicate 129 (Value.int .u64 0):=by kernel_rfl
 rw [e];have h:=World.rowIs_alloc w (Array.replicate 129 (Value.int .u64 0)) 180 (qI fun _=>0) fun i hi=>by
  rw [Array.size_replicate] at hi;rw [Array.getElem?_replicate,if_pos hi];rfl
 simpa using h
structure DtS (w:World) (N:Nt) (A:Option Addr) (c b4 a:Nat) (W:World):Prop where
 fn:W.rowIs w.heap.size 24 2 (zC #[.int .i64 N.n,.slice A N.l.length c])
 fa:W.rowIs b4 96 2 (zC #[.int .u64 (Cs.lo a:Int),.int .u64 (Cs.hi a:Int)])
 hb:w.heap.size<b4
 bl:Below w.heap.size w W
section
variable {w W W':World} {N:Nt} {A:Option Addr} {c b4 a:Nat}
theorem DtS.below (h:DtS w N A c b4 a W) (hb:Below W.heap.size W W'):DtS w N A c b4 a W':=⟨zh h.fn hb,zh h.fa hb,h.hb,zx h.bl hb h.bl.size⟩
theorem DtS.put (h:DtS w N A c b4 a W) (a2:Nat):DtS w N A c b4 a2 ((W.setCell ⟨b4,0,none⟩ (.int .u64 (Cs.lo a2:Int))).setCell ⟨b4,1,none⟩ (.int .u64 (Cs.hi a2:Int))) :=
 ⟨(h.fn.setOther (Nat.ne_of_lt h.hb) _).setOther (Nat.ne_of_lt h.hb) _,qx h.fa _ _,h.hb,oZ h.bl (Nat.le_of_lt h.hb) _ _⟩
end
theorem det_any (w:World) (hT:Tab w) (hP:Pat w) (N:Nt) (A:Option Addr) (c:Nat) (hN:NtAt w w.heap.size A N.l) (hv:zE N=true) (hin:∀ k (hk:k<N.l.length),N.l[k].ins.length≤1000000) (hn8:N.n≤8) :
  Calls Tryz.prog 92 #[qB N A c] w fun e w'=>∃ r,e = .returned (.tuple #[.bool r,.int .i64 0])∧(r=true→∀ s,qQ N s=true)∧Below w.heap.size w w':=by
 obtain ⟨hn0,hn1,hl0,hl1⟩:=qR hv;have hck:=fun W h=>zaC W N A c (by omega) h;rw [show q8 N=0 by unfold q8;rw [hv];rfl] at hck;have q0:=(Kp.nil w).new #[.int .i64 N.n,.slice A N.l.length c] 24 w.heap.size 2 rfl rfl;have s1:World.cell? _ ⟨w.heap.size,0,none⟩=some (.int .i64 N.n):=(q0.row 0 rfl).cell (i:=0) (by decide);have s2:World.cell? _ ⟨w.heap.size,1,none⟩=some (.slice A N.l.length c):=(q0.row 0 rfl).cell (i:=1) (by decide);have HCK:=zc hck;have HT:=zc hT;have HP:=zc hP;have HV:=zc hv;have HIN:=zc hin;have HN8:=zc hn8;have HLEN:=zc hl1;have HMK:=zc (mk_u64 N.l.length (by omega));have Q0:=zc q0;clear hck hT hP hv hin q0 hn0 hn1 hl0 hl1 hn8;go_enter Tryz.func92, Tryz.ntmps92;go_wp2_with (go_at_call 46;(with_reducible refine (HCK.out _ ((hN.below Q0.out.bl).more Q0.out.bl.size)).mono ?_);rintro e w1 ⟨rfl,hb1⟩;have Q1:=zc (Q0.out.below hb1);clear s1 s2;have QA:=zc (Q1.out.alloc (.cells #[.int .u64 0,.int .u64 0] 96));have s1:World.cell? _ ⟨w.heap.size,0,none⟩=some (.int .i64 N.n):=(QA.out.row 0 rfl).cell (i:=0) (by decide);have s2:World.cell? _ ⟨w.heap.size,1,none⟩=some (.slice A N.l.length c):=(QA.out.row 0 rfl).cell (i:=1) (by decide))
 obtain ⟨b4,hb4⟩:∃ b,w1.heap.size=b:=⟨_,rfl⟩;have st:DtS w N A c b4 0 (w1.alloc (.cells #[.int .u64 0,.int .u64 0] 96)):=by
  have q2:=Q1.out.new #[.int .u64 0,.int .u64 0] 96 b4 2 hb4 rfl;have hlt:=(Q1.out.row 0 rfl).lt;have z1:Cs.lo 0=0:=by decide
  have z2:Cs.hi 0=0:=by decide
  exact ⟨q2.row 1 rfl,by rw [z1,z2];exact q2.row 0 rfl,by omega,q2.bl⟩
 have HST:=zc st;rw [hb4];clear st hb4 s1 s2 Q0 Q1 QA;go_loopw [19] (fun t wr=>∃ k a:Nat,k≤N.l.length∧t = .int .i64 (k:Int)∧occ N k a∧DtS w N A c b4 a wr) (fun t _=>N.l.length-(intOf t).toNat)
 case atStart=>exact ⟨0,0,Nat.zero_le _,rfl,occ_zero,HST.out⟩
 case round =>
  clear HST;obtain ⟨k,a,hk,rfl,ho,hE⟩:=hrel;by_cases hlt:k<N.l.length
  ·have hc0:decide ((k:Int)<(N.l.length:Int))=true:=decide_eq_true (by omega);have hi1:(0:Int)≤(k:Int):=by omega
   have hi2:(k:Int)<(N.l.length:Int):=by omega
   have e9:IntKind.i64.wrap ((k:Int)+1)=(k:Int)+1:=by have:=HLEN.out;rw [IntKind.wrap_i64];omega
   obtain ⟨b,o,rfl,hbB,hcs⟩:=hN (by omega);have hnd:=hcs k hlt;have hfk:=qM HV.out k hlt;obtain ⟨⟨xk,lx,xi⟩,hx⟩:∃ x,N.l[k]=x:=⟨_,rfl⟩;rw [hx] at hnd hfk;have HX:=zc hx;have HFK:=zc hfk;have HO:=zc ho;obtain ⟨hk1,hk2,⟨A',c',hk3,hrd⟩,hr1,hr2,hr3,hr4⟩:=hnd;replace hk1:=zF hE.bl hbB hk1;replace hk2:=zF hE.bl hbB hk2;replace hk3:=zF hE.bl hbB hk3;obtain ⟨W0,rfl⟩:∃ W0,W0=wr:=⟨wr,rfl⟩;have hxN:=zI W0 #[.int .i64 xk,.int .i64 lx,.slice A' xi.length c'] 66 W0.heap.size 3 rfl rfl;have hE1:=hE.below ((zy _ _).alloc (zv _) (.cells #[.int .i64 xk,.int .i64 lx,.slice A' xi.length c'] 66));have x0:World.cell? _ ⟨W0.heap.size,0,none⟩=some (.int .i64 xk):=hxN.cell (i:=0) (by decide);have x1:World.cell? _ ⟨W0.heap.size,1,none⟩=some (.int .i64 lx):=hxN.cell (i:=1) (by decide);have QV:=zc hE1;have HXN:=zc hxN;have HLT:=zc hlt;clear hE hE1 hxN hk hcs hbB hfk hx hr1 hr2 hr3 hr4 hrd ho;by_cases h2:xk=2
   ·have b2:(xk==2)=true:=beq_iff_eq.2 h2;have hlk:z7 lx N.n=true:=(zaT HFK.out h2).1;have hrg:=zb3 hlk;have hlv:=fun W=>zbD W lx (by have:=HN8.out;omega) (by have:=HN8.out;omega);obtain ⟨lv,hlvv⟩:∃ x,zH lx=x:=⟨_,rfl⟩;have hwi:=fun W=>zgb W a lv;obtain ⟨a2,ha2⟩:∃ x,qA a lv=x:=⟨_,rfl⟩;simp only [hlvv] at hlv;simp only [ha2] at hwi;unfold qk at hwi;have HLV:=zc hlv;have HWI:=zc hwi;have HA2:=zc (show qA a (zH lx)=a2 by rw [hlvv];exact ha2);have HK2:=zc h2;clear hlk hrg hlv hlvv hwi ha2 h2;go_upto_region 8 with (fail)
    obtain ⟨V,hV⟩:∃ V,W0.alloc (.cells #[.int .i64 xk,.int .i64 lx,.slice A' xi.length c'] 66)=V:=⟨_,rfl⟩;obtain ⟨nb,hnb⟩:∃ b,W0.heap.size=b:=⟨_,rfl⟩;rw [hV] at QV x1 ⊢;simp only [hnb] at x1 ⊢;have s1:V.cell? ⟨b4,0,none⟩=some (.int .u64 (Cs.lo a:Int)):=QV.out.fa.cell (i:=0) (by decide);have s2:V.cell? ⟨b4,1,none⟩=some (.int .u64 (Cs.hi a:Int)):=QV.out.fa.cell (i:=1) (by decide);have s3:=x1;have g4:=QV.out.fa.lt;have gnb:=World.block_lt_of_cell? _ _ x1;clear hV hnb x0 x1 hk1 hk2 hk3 HXN;have HS:Hid (∀ W,Below V.heap.size V W→W.cell? ⟨b4,0,none⟩=some (.int .u64 (Cs.lo a:Int))∧W.cell? ⟨b4,1,none⟩=some (.int .u64 (Cs.hi a:Int))∧W.cell? ⟨nb,1,none⟩=some (.int .i64 lx)):=zc fun W hb=>⟨zG hb s1 g4,zG hb s2 g4,zG hb s3 gnb⟩;refine yT (n:=_) (PX:=[zm (.agg #[.int .u64 (Cs.lo a:Int),.int .u64 (Cs.hi a:Int)]),
       zm (.pointer (some ⟨nb,1,none⟩)),
       zm (.int .i64 lx),
       zm (.int .i64 lv),
       zm (.agg #[.int .u64 (Cs.lo a2:Int),.int .u64 (Cs.hi a2:Int)])])
      (AL:=[]) (DP:=[[],[],[1],[2],[0,3]]) (L1:=[0,1,2,3,4]) (ex:=[]) (by kernel_rfl) rfl (by kernel_rfl) ?_ ?_ (ji ?_)
    ·repeat' first|exact qi|refine zo ?_ ?_|exact fun _ _ _ _ h _=>h
    ·refine zo (zw rfl [] ?_) (zo (zw rfl [] ?_) (zo (zw rfl [(1,some 27)] ?_) (zo ?_ (zo ?_ qi))));all_goals try (intro vs W hW hd K hK;(try simp only [qh,zm,and_true,List.getD_cons_succ,List.getD_cons_zero] at hd);(first | simp only [hd,zu,Act.put,zk,zj,zi,zg,zf,ze] at hK ⊢ | simp only [zu,Act.put,zk,zj,zi,zg,zf,ze] at hK ⊢ | skip);obtain ⟨m1,m2,m3⟩:=HS.out W hW;go_simp;exact hK.out _ _ rfl (zy _ _) (yM rfl))
     ·refine zZ rfl [(2,some 28)] ?_;intro vs W hW hd K hK;have d2:vs 2 = .int .i64 lx:=hd 2 (by decide);clear hd;try simp only [d2,zu,Act.put,zk,zj,zi,zg,zf,ze] at hK ⊢
      go_simp;go_at_call 117;(with_reducible first | refine (HLV.out _).mono ?_);rintro e w9 ⟨rfl,rfl⟩;have hb9:=Below.refl W.heap.size W;exact hK.out _ _ (rfl) hb9 (fun h=>absurd h (by decide))
     ·refine zZ rfl [(0,some 26),(3,some 29)] ?_;intro vs W hW hd K hK;have d0:vs 0 = .agg #[.int .u64 (Cs.lo a:Int),.int .u64 (Cs.hi a:Int)]:=hd 0 (by decide);have d3:vs 3 = .int .i64 lv:=hd 3 (by decide);clear hd;try simp only [d0,d3,zu,Act.put,zk,zj,zi,zg,zf,ze] at hK ⊢
      go_simp;go_at_call 136;(with_reducible first | refine (HWI.out _).mono ?_);rintro e w9 ⟨rfl,hb9⟩;exact hK.out _ _ (rfl) hb9 (fun h=>absurd h (by decide))
    refine yp [(0,some 26),(1,some 27),(2,some 28),(3,some 29),(4,some 30)] #[true,true,true,true,true,false] 1 ?_;intro vs Wf hW hd hbk hdis kf;simp only [qh,zm,and_true,List.getD_cons_succ,List.getD_cons_zero] at hd;obtain ⟨d0,d1,d2,d3,d4⟩:=hd;clear hbk hdis;try simp only [d0,d1,d2,d3,d4,zu,Act.put,zk,zj,zi,zg,zf,ze]
    clear d0 d1 d2 d3 d4 vs;clear HS;have qf:=QV.out.below hW;have m0:Wf.cell? ⟨b4,0,none⟩=some (.int .u64 (Cs.lo a:Int)):=qf.fa.cell (i:=0) (by decide);have m1:Wf.cell? ⟨b4,1,none⟩=some (.int .u64 (Cs.hi a:Int)):=qf.fa.cell (i:=1) (by decide);have f0:=qf.fa.frozen 0;have f1:=qf.fa.frozen 1;have HQF:=zc qf;clear qf;refine zL 5 (by kernel_rfl) rfl (fun K hK=>?_);go_simp;refine hK.out _ _ ?_;clear hK K;try simp only [zu,Act.put,zk,zj,zi,zg,zf,ze]
    refine z8 (by kernel_rfl) ?_ _;all_goals
     go_wp2;go_roundw
    case rel=>exact ⟨k+1,a2,Nat.succ_le_of_lt HLT.out,by go_num,by rw [← HA2.out];have h:=occ_lit HV.out HO.out HLT.out (by rw [HX.out];exact HK2.out);rwa [HX.out] at h,HQF.out.put a2⟩
    case measure=>have:=HLT.out;simp [intOf];omega
   ·have b2:(xk==2)=false:=beq_eq_false_iff_ne.2 h2;have HK2:=zc h2;clear h2;go_wp2_with fail
    go_roundw
    case rel=>exact ⟨k+1,a,Nat.succ_le_of_lt HLT.out,by go_num,occ_not HO.out HLT.out (by rw [HX.out];exact HK2.out),QV.out⟩
    case measure=>have:=HLT.out;simp [intOf];omega
  ·obtain rfl:k=N.l.length:=by omega
   have hc0:decide ((N.l.length:Int)<(N.l.length:Int))=false:=decide_eq_false (by omega);have hlen8:=occ_len ho HN8.out;have hnd:=zgd a;have hps:=zgV a;have hvb:∀ x∈vl a,x≤128:=fun x hx=>(zgX a x hx).2;have hln:=fun blk b s om=>lane_of (N:=N) (a:=a) (blk:=blk) (b:=b) (s:=s) (om:=om) HV.out ho;have hli:=fun W h=>ziG W a h;have x1:wr.cell? ⟨b4,0,none⟩=some (.int .u64 (Cs.lo a:Int)):=hE.fa.cell (i:=0) (by decide);have x2:wr.cell? ⟨b4,1,none⟩=some (.int .u64 (Cs.hi a:Int)):=hE.fa.cell (i:=1) (by decide);unfold qk at hli;obtain ⟨L,hL⟩:∃ L,vl a=L:=⟨_,rfl⟩;simp only [hL] at hlen8 hnd hps hln hli hvb;have hgt:decide ((16:Int)<(L.length:Int))=false:=decide_eq_false (by omega);obtain ⟨m,hm⟩:∃ m,L.length-6=m:=⟨_,rfl⟩;have hmx:max 0 (wrap64 ((L.length:Int)-6))=(m:Int):=by rw [IntWalk.wrap64_in _ (by omega)];omega
   have hmw:IntKind.u64.wrap (m:Int)=(m:Int):=by rw [IntKind.wrap_u64];omega
   have hm3:m=0∨m=1∨m=2:=by omega
   have hsh:wrap64 ((2:Int)^min m 64)=((2^m:Nat):Int):=by rcases hm3 with rfl | rfl | rfl <;> (rw [IntWalk.wrap64_in _ (by decide)];decide)
   obtain ⟨nb,hnb⟩:∃ x:Nat,2^m=x:=⟨_,rfl⟩;rw [hnb] at hsh;have hnb4:nb≤4:=by rw [← hnb];rcases hm3 with rfl | rfl | rfl <;> decide
   have HNB:=zc hnb;have HN4:=zc hnb4;have HLI:=zc hli;have HLN:=zc hln;have HND:=zc hnd;have HPS:=zc hps;have HVB:=zc hvb;have HL8:=zc hlen8;have HMM:=zc hm;have HM3:=zc hm3;have QE:=zc hE;clear hlen8 hnd hps hvb hln hli hm hm3 hE hk hlt ho hL hnb hnb4;go_wp2_with (go_at_call 99;(with_reducible refine (HLI.out _ (HT.out.below QE.out.bl)).mono ?_);rintro e w5 ⟨A5,c5,rfl,hrd,hb5⟩;have QF:=zc (QE.out.below hb5);have HR:=zc hrd;clear x1 x2 hrd QE;have hmk:=HMK.out w5;have y1:w5.cell? ⟨w.heap.size,0,none⟩=some (.int .i64 N.n):=QF.out.fn.cell (i:=0) (by decide);have y2:w5.cell? ⟨w.heap.size,1,none⟩=some (.slice A N.l.length c):=QF.out.fn.cell (i:=1) (by decide))
   rw [hsh];clear hmx hmw hsh y1 y2 hmk;have hrv:=u64Made w5 N.l.length 64;have hbv:=(Below.refl w5.heap.size w5).alloc (zv _) (.cells (madeCells #[.int .u64 0] N.l.length) 64);have HRV:=zc hrv;have HBV:=zc hbv;clear hrv hbv;go_loopw [47] (fun t wr=>∃ blk:Nat,blk≤nb∧t = .int .i64 (blk:Int)∧(∀ q,q<blk→BlkOk N L q)∧Below w5.heap.size w5 wr∧∃ f,wr.rowIs w5.heap.size 64 N.l.length (qI f)∧∀ i,f i<18446744073709551616) (fun t _=>nb-(intOf t).toNat)
   case atStart=>exact ⟨0,Nat.zero_le _,rfl,fun q hq=>absurd hq (Nat.not_lt_zero q),HBV.out,_,HRV.out,fun _=>(by decide:(0:Nat)<18446744073709551616)⟩
   case round =>
    clear HRV HBV;obtain ⟨blk,hbk,rfl,hok,hbl,f,hfv,hff⟩:=hrel;by_cases hlb:blk<nb
    ·have hd0:decide ((blk:Int)<(nb:Int))=true:=decide_eq_true (by omega);have hd00:decide (blk<nb)=true:=decide_eq_true hlb;have e9:IntKind.i64.wrap ((blk:Int)+1)=(blk:Int)+1:=by have:=HN4.out;rw [IntKind.wrap_i64];omega
     have HOK:=zc hok;have HBL:=zc hbl;have HFV:=zc hfv;have HFF:=zc hff;have HLB:=zc hlb;clear hok hbl hfv hff hlb hbk;have hrw:=zero129 wr;have hbw:=(Below.refl wr.heap.size wr).alloc (zv _) (.cells Tryz.zeroCells180 180);have HRW:=zc hrw;have HBW:=zc hbw;clear hrw hbw;go_wp2_with fail
     obtain ⟨W0,rfl⟩:∃ W0,W0=wr:=⟨wr,rfl⟩;go_loopw [52] (fun t wq=>∃ (i:Nat) (om:Nat→Nat),i≤L.length∧t = .int .i64 (i:Int)∧wq.rowIs W0.heap.size 180 129 (qI om)∧(∀ v,om v<18446744073709551616)∧OmI blk L i om∧OmZ L i om∧Below W0.heap.size W0 wq) (fun t _=>L.length-(intOf t).toNat)
     case atStart=>exact ⟨0,fun _=>0,Nat.zero_le _,rfl,HRW.out,fun _=>(by decide:(0:Nat)<18446744073709551616),OmI.zero,OmZ.zero,HBW.out⟩
     case round =>
      clear HRW HBW;obtain ⟨i,om,hil,rfl,hrw,hom,hOm,hOz,hbw⟩:=hrel;by_cases hli:i<L.length
      ·have hj0:decide ((i:Int)<(L.length:Int))=true:=decide_eq_true (by omega);have hj00:decide (i<L.length)=true:=decide_eq_true hli;have hj1:(i:Int)<(L.length:Int):=by omega
       have hj2:(0:Int)≤(i:Int):=by omega
       have e8:IntKind.i64.wrap ((i:Int)+1)=(i:Int)+1:=by have:=HL8.out;rw [IntKind.wrap_i64];omega
       have hb05:=zx HBL.out hbw HBL.out.size;obtain ⟨bl,ol,rfl,hbL,hcL⟩:=HR.out (by omega);have hc:World.cell? _ ⟨bl,ol+i,none⟩=some (.int .i64 (L.getD i 0)):=zF hb05 hbL (hcL i hli);have hpx:=HPS.out (L.getD i 0) (by rw [List.getD_eq_getElem?_getD,List.getElem?_eq_getElem hli];exact List.getElem_mem hli);have hle:=HVB.out (L.getD i 0) (by rw [List.getD_eq_getElem?_getD,List.getElem?_eq_getElem hli];exact List.getElem_mem hli);obtain ⟨v,hv⟩:∃ v:Nat,L.getD i 0=(v:Int):=⟨(L.getD i 0).toNat,by omega⟩;rw [hv] at hc hpx hle;have hv1:(0:Int)≤(v:Int):=by omega
       have hv2:(v:Int)<129:=by omega
       have hnx:=hOm.next HND.out HPS.out hli hv;have hw0:World.cell? _ ⟨W0.heap.size,v,none⟩=some (qI om v):=hrw.cell (i:=v) (by omega);have hf0:=hrw.frozen v;unfold qI at hw0;have hput:∀ y:Nat,y<18446744073709551616→yU blk i=y→((wr.setCell ⟨W0.heap.size,v,none⟩ (.int .u64 (y:Int))).rowIs W0.heap.size 180 129 (qI fun u=>if u=v then yU blk i else om u))∧(∀ u,(if u=v then yU blk i else om u)<18446744073709551616)∧Below W0.heap.size W0 (wr.setCell ⟨W0.heap.size,v,none⟩ (.int .u64 (y:Int))):=fun y hy he=>by
        refine ⟨(hrw.set v _).congr fun j hj=>?_,fun u=>?_,hbw.setCell (by simp) _⟩
        ·unfold qI;by_cases h:j=v
         ·simp only [if_pos h,he]
         ·simp only [if_neg h]
        ·split
         ·exact wdN_lt _ _
         ·exact hom u
       have HPUT:=zc hput;have hz0:=hOz.here HND.out HPS.out hli hv;have HNZ:=zc (fun x=>hOz.next (x:=x) hv);have HNX:=zc hnx;have HLI2:=zc hli;have HW9:=zc (And.intro hrw (And.intro hom hbw));rcases Nat.lt_or_ge i 6 with h6 | h6
       ·have k0:decide ((i:Int)<6)=true:=decide_eq_true (by omega);have k00:decide (i<6)=true:=decide_eq_true h6;have k1:(i:Int)<6:=by omega
        have hpt:=(HP.out.below QF.out.bl) i h6;have hpt2:World.cell? _ ⟨0,i,none⟩=some (.int .u64 (yQ i:Int)):=(hb05.cell (p:=⟨0,i,none⟩) (World.block_lt_of_cell? _ _ hpt)).trans hpt;have hwd:yU blk i=yQ i:=by unfold yU;rw [if_pos h6]
        have hpl:=gJ i;obtain ⟨y,hy⟩:∃ y,yQ i=y:=⟨_,rfl⟩;rw [hy] at hpt2 hwd hpl;have HWD:=zc hwd;have HPL:=zc hpl;clear hz0 hOz hpt hwd hpl hy hnx hput hli hom hOm hrw hbw hb05 hpx hle hcL hbL hil h6;go_wp2_with fail
        go_roundw
        case rel=>exact ⟨i+1,_,Nat.succ_le_of_lt HLI2.out,by go_num,(HPUT.out y HPL.out HWD.out).1,(HPUT.out y HPL.out HWD.out).2.1,HNX.out,HNZ.out _,(HPUT.out y HPL.out HWD.out).2.2⟩
        case measure=>have:=HLI2.out;simp [intOf];omega
       ·have h67:i=6∨i=7:=by have:=HL8.out;omega
        have hb4:blk=0∨blk=1∨blk=2∨blk=3:=by have:=HN4.out;have:=HLB.out;omega
        have HKP:=zc (show yU blk i=0→wr.rowIs W0.heap.size 180 129 (qI fun u=>if u=v then yU blk i else om u)∧(∀ u,(if u=v then yU blk i else om u)<18446744073709551616)∧Below W0.heap.size W0 wr from fun he=>by
         have e:(fun u=>if u=v then yU blk i else om u)=om:=by
          funext u
          by_cases h:u=v
          ·simp only [if_pos h,he];rw [h,hz0]
          ·simp only [if_neg h]
         refine ⟨by rw [e];exact hrw,fun u=>?_,hbw⟩;split
         ·exact wdN_lt _ _
         ·exact hom u)
        clear hz0 hOz hnx hput hli hom hOm hrw hbw hb05 hpx hle hcL hbL hil h6;rcases h67 with rfl | rfl <;> rcases hb4 with rfl | rfl | rfl | rfl
        all_goals
         go_wp2_with fail
         go_roundw
        all_goals first
         | (case rel=>exact ⟨_,_,Nat.succ_le_of_lt HLI2.out,by go_num,(HPUT.out ones64 (by decide) (by decide)).1,(HPUT.out ones64 (by decide) (by decide)).2.1,HNX.out,HNZ.out _,(HPUT.out ones64 (by decide) (by decide)).2.2⟩)
         | (case rel=>exact ⟨_,_,Nat.succ_le_of_lt HLI2.out,by go_num,(HKP.out (by decide)).1,(HKP.out (by decide)).2.1,HNX.out,HNZ.out _,(HKP.out (by decide)).2.2⟩)
         | (case measure=>have:=HLI2.out;simp [intOf];omega)
      ·obtain rfl:i=L.length:=by omega
       have hj0:decide ((L.length:Int)<(L.length:Int))=false:=decide_eq_false (by omega);have hj00:decide (L.length<L.length)=false:=decide_eq_false (by omega);have hb05:=zx HBL.out hbw HBL.out.size;have hsz:=HFV.out.lt;have y1:World.cell? _ ⟨w.heap.size,0,none⟩=some (.int .i64 N.n):=(QF.out.below hb05).fn.cell (i:=0) (by decide);have y2:World.cell? _ ⟨w.heap.size,1,none⟩=some (.slice A N.l.length c):=(QF.out.below hb05).fn.cell (i:=1) (by decide);have hbig:=zx QF.out.bl hb05 QF.out.bl.size;have hsp:=sep_any wr N A c w.heap.size W0.heap.size w5.heap.size om f ((hN.below hbig).more (zv _)) HV.out HIN.out QF.out.bl.size hrw hom (zh HFV.out hbw) HFF.out (by omega);have HSP:=zc hsp;have HOm:=zc hOm;have HBW:=zc hbw;clear hsp hOm hOz hrw hom hbw hb05 hsz hbig hil hli;go_wp2_with (go_at_call 137;(with_reducible refine HSP.out.mono ?_);rintro e w7 ⟨r,fx,rfl,hr,hrow,hfx,hgb⟩;have HR7:=zc hr;have HW7:=zc (And.intro hrow (And.intro hfx hgb));clear hr hrow hfx hgb y1 y2)
       case roundEnd =>
        rename_i hx;have hr1:r=true:=by cases r <;> simp at hx;rfl
        refine ⟨⟨blk+1,Nat.succ_le_of_lt HLB.out,by go_num,fun q hq=>?_,zbT (zx HBL.out HBW.out HBL.out.size) HW7.out.2.2 (zx HBL.out HBW.out HBL.out.size).size (zv _),fx,HW7.out.1,HW7.out.2.1⟩,?_⟩
        ·rcases Nat.lt_succ_iff_lt_or_eq.1 hq with h | rfl
         ·exact HOK.out q h
         ·exact fun b hb s hs=>SepI.det (HR7.out hr1) hb (HLN.out q b s om HOm.out hs)
        ·have:=HLB.out;simp [intOf];omega
       rename_i hx;obtain rfl:r=false:=by cases r <;> simp at hx;rfl
       have hbig:=zx QF.out.bl (zx HBL.out HBW.out HBL.out.size) QF.out.bl.size;go_wp2;go_ret2;exact ⟨false,rfl,fun h=>(by cases h),zbT hbig HW7.out.2.2 hbig.size QF.out.bl.size⟩
    ·obtain rfl:blk=nb:=by omega
     have hd0:decide ((blk:Int)<(blk:Int))=false:=decide_eq_false (by omega);have hd00:decide (blk<blk)=false:=decide_eq_false (by omega);have HOK:=zc hok;have HBL:=zc hbl;clear hok hbl hfv hff hbk hlb;go_wp2_with fail
     go_ret2;exact ⟨true,rfl,fun _=>blk_all fun q hq=>HOK.out q (by rw [HMM.out,HNB.out] at hq;exact hq),zx QF.out.bl HBL.out QF.out.bl.size⟩
end Go.Proofs.YtmhllppjcilllaaGreatDoor
end
