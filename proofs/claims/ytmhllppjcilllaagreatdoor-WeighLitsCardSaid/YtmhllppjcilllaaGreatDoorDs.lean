import Derived.Test.YtmhllppjcilllaaGreatDoorDn
import Derived.WalkMore
set_option linter.unusedSimpArgs false
set_option linter.unusedVariables false
set_option maxRecDepth 100000
set_option maxHeartbeats 4000000
open Go Go.RowKit Cs
namespace Go.Proofs.YtmhllppjcilllaaGreatDoor
theorem zg2:(Tryz.prog.info? 33).map (fun i=>(i.zero,i.size,i.bytes))=some (some (.agg #[.string ⟨#[]⟩,.string ⟨#[]⟩]),2,32):=by kernel_rfl
theorem jF (n:Nat) (h:n≤1000000000) (u:World):(Instr.makeSlice 37 (.int .i64 (n:Int)) (.int .i64 (n:Int))).run Tryz.prog u =
  .ok (.slice (some ⟨u.heap.size,0,none⟩) n n) (u.alloc (.cells (madeCells #[.string ⟨#[]⟩,.string ⟨#[]⟩] (n*2)) 33)):=by
 obtain ⟨i0,hi,hz0,hz1,hz2⟩:=info_parts zg2;have hr:=run_make (P:=Tryz.prog) u 37 33 i0 _ Tryz.underlying37 hi hz0 .i64 .i64 n n (by omega) (Int.le_refl _) (by rw [hz2];omega) (by omega);simp only [Int.toNat_natCast,hz1] at hr;exact hr
theorem gO (n:Nat) (h:n≤10000000) (u:World):(Instr.makeSlice 37 (.int .i64 ((n:Int)+1)) (.int .i64 ((n:Int)+1))).run Tryz.prog u =
  .ok (.slice (some ⟨u.heap.size,0,none⟩) (n+1) (n+1)) (u.alloc (.cells (madeCells #[.string ⟨#[]⟩,.string ⟨#[]⟩] ((n+1)*2)) 33)):=jF (n+1) (by omega) u
structure W1 (w0:World) (Al Ah:Option Addr) (cl ch n:Nat) (Bo:List Pr) (wr:World):Prop where
 wts:wr.rowIs w0.heap.size 39 2 (zy #[.slice Al (n+1) cl,.slice Ah (n+1) ch])
 res:wr.rowIs (w0.heap.size+1) 33 2 (qI 0 0)
 both:wr.rowIs (w0.heap.size+1+1) 33 ((n+1)*2) (zD Bo)
 bb:wr.rowIs (w0.heap.size+1+1+1) 37 1 (fun _=>.slice (some ⟨w0.heap.size+1+1,0,none⟩) (n+1) (n+1))
 bl:Below w0.heap.size w0 wr
section
variable {w0:World} {Al Ah:Option Addr} {cl ch n:Nat} {Bo:List Pr} {wr w':World}
theorem W1.below (h:W1 w0 Al Ah cl ch n Bo wr) (hb:Below wr.heap.size wr w'):W1 w0 Al Ah cl ch n Bo w' :=
 ⟨zo h.wts hb,zo h.res hb,zo h.both hb,zo h.bb hb,zw h.bl hb h.bl.size⟩
theorem W1.drew (h:W1 w0 Al Ah cl ch n Bo wr):W1 w0 Al Ah cl ch n Bo wr.drew:=⟨h.wts.drew,h.res.drew,h.both.drew,h.bb.drew,h.bl.drew⟩
theorem W1.alloc (h:W1 w0 Al Ah cl ch n Bo wr) (o:Obj):W1 w0 Al Ah cl ch n Bo (wr.alloc o):=h.below ((zx _ _).alloc (zu _) _)
theorem W1.next (h:W1 w0 Al Ah cl ch n Bo wr) (p:Pr) (k:Nat) (hk:k=Bo.length) :
  W1 w0 Al Ah cl ch n (Bo++[p]) ((wr.setCell ⟨w0.heap.size+1+1,k*2,none⟩ (.string (za p.1))).setCell ⟨w0.heap.size+1+1,k*2+1,none⟩ (.string (za p.2))) :=
 ⟨(h.wts.setOther (by simp;omega) _).setOther (by simp;omega) _,(h.res.setOther (by simp) _).setOther (by simp) _,zeQ h.both p k hk,(h.bb.setOther (by simp) _).setOther (by simp) _,
   (h.bl.setCell (by simp;omega) _).setCell (by simp;omega) _⟩
theorem W1.far (h:W1 w0 Al Ah cl ch n Bo wr) (g i:Nat) (v:Value) (hg:w0.heap.size+1+1+1<g):W1 w0 Al Ah cl ch n Bo (wr.setCell ⟨g,i,none⟩ v) :=
 ⟨h.wts.setOther (by simp;omega) _,h.res.setOther (by simp;omega) _,h.both.setOther (by simp;omega) _,h.bb.setOther (by simp;omega) _,h.bl.setCell (by simp;omega) _⟩
end
structure WE (w0:World) (Al Ah:Option Addr) (cl ch n:Nat) (Bo L:List Pr) (Q len:Nat) (wr:World):Prop where
 one:W1 w0 Al Ah cl ch n Bo wr
 out:wr.rowIs Q 33 (len*2) (zD L)
 hQ:w0.heap.size+1+1+1<Q
section
variable {w0:World} {Al Ah:Option Addr} {cl ch n Q len:Nat} {Bo L:List Pr} {s:Pr} {wr w':World}
theorem WE.below (h:WE w0 Al Ah cl ch n Bo L Q len wr) (hb:Below wr.heap.size wr w'):WE w0 Al Ah cl ch n Bo L Q len w':=⟨h.one.below hb,zo h.out hb,h.hQ⟩
theorem WE.drew (h:WE w0 Al Ah cl ch n Bo L Q len wr):WE w0 Al Ah cl ch n Bo L Q len wr.drew:=⟨h.one.drew,h.out.drew,h.hQ⟩
theorem WE.alloc (h:WE w0 Al Ah cl ch n Bo L Q len wr) (o:Obj):WE w0 Al Ah cl ch n Bo L Q len (wr.alloc o):=h.below ((zx _ _).alloc (zu _) _)
theorem WE.far (h:WE w0 Al Ah cl ch n Bo L Q len wr) (g i:Nat) (v:Value) (hg:Q<g):WE w0 Al Ah cl ch n Bo L Q len (wr.setCell ⟨g,i,none⟩ v) :=
 ⟨h.one.far g i v (by have:=h.hQ;omega),h.out.setOther (by simp;omega) _,h.hQ⟩
theorem WE.next (h:WE w0 Al Ah cl ch n Bo L Q len wr) (p:Pr) (k:Nat) (hk:k=L.length) :
  WE w0 Al Ah cl ch n Bo (L++[p]) Q len ((wr.setCell ⟨Q,k*2,none⟩ (.string (za p.1))).setCell ⟨Q,k*2+1,none⟩ (.string (za p.2))) :=
 ⟨(h.one.far Q _ _ h.hQ).far Q _ _ h.hQ,zeQ h.out p k hk,h.hQ⟩
theorem WE.zero (h:WE w0 Al Ah cl ch n Bo L Q len wr):WE w0 Al Ah cl ch n Bo (L++[(0,0)]) Q len wr:=⟨h.one,h.out.congr fun i _=>by
 have e:∀ j,(L++[((0,0):Pr)]).getD j (0,0)=L.getD j (0,0):=fun j=>by
  rw [List.getD_eq_getElem?_getD,List.getD_eq_getElem?_getD,List.getElem?_append];split
  ·rfl
  ·rename_i h1;rw [List.getElem?_eq_none (l:=L) (by omega)];rcases Nat.eq_zero_or_pos (j-L.length) with h2 | h2
   ·rw [h2];rfl
   ·rw [List.getElem?_eq_none (by simp;omega)]
 unfold zD;simp only [e],h.hQ⟩
theorem WE.last (h:WE w0 Al Ah cl ch n Bo (L++[s]) Q len wr) (p:Pr) (k:Nat) (hk:k=L.length) :
  WE w0 Al Ah cl ch n Bo (L++[p]) Q len ((wr.setCell ⟨Q,k*2,none⟩ (.string (za p.1))).setCell ⟨Q,k*2+1,none⟩ (.string (za p.2))) :=
 ⟨(h.one.far Q _ _ h.hQ).far Q _ _ h.hQ,by
   have:=prsSet h.out p k (by rw [hk];simp);rwa [hk,List.set_append_right _ _ (zu _),Nat.sub_self,List.set_cons_zero,← hk] at this,h.hQ⟩
theorem WE.at (h:WE w0 Al Ah cl ch n Bo L Q len wr) (k:Nat) (hk:k<len) (p:Pr) (hp:L.getD k (0,0)=p) :
  wr.cell? ⟨Q,k*2,none⟩=some (.string (za p.1))∧wr.cell? ⟨Q,k*2+1,none⟩=some (.string (za p.2)):=by
 subst hp;exact zex h.out k hk
end
theorem zd0 (w:World) (N:Nt) (A:Option Addr) (c ga go n cl ch:Nat) (lo hi:List Pr) (Al Ah:Option Addr) (hA:AdAt w 155 96 w.heap.size ga go N A c)
  (hv:zG N=true) (hd:qt N=true) (hs:qJ N=true) (hn:N.n=(n:Int)) (hin:∀ k (hk:k<N.l.length),N.l[k].ins.length≤1000000) (hW:WtOk n lo hi) (hlo:Rd w w.heap.size Al ((n+1)*2) (zD lo)) (hhi:Rd w w.heap.size Ah ((n+1)*2) (zD hi)) (hT:Tab w) :
  Calls Tryz.prog 53 #[.pointer (some ⟨ga,0,none⟩),.agg #[.slice Al (n+1) cl,.slice Ah (n+1) ch]] w fun e w' =>
   e = .returned (zI ((RP n lo hi).sum N).1 ((RP n lo hi).sum N).2)∧Below w.heap.size w w':=by
 obtain ⟨⟨rn,rd⟩,hS⟩:∃ S,(RP n lo hi).sum N=S:=⟨_,rfl⟩;rw [hS];have HS:=zb hS;clear hS;have hn128:=zhT hv hn;have HIN0:=zb hin;clear hin;obtain ⟨bl,ol,rfl,hbl,hcl⟩:=hlo (by omega);obtain ⟨bh,oh,rfl,hbh,hch⟩:=hhi (by omega);have hc1:∀ v,v<n+1→w.cell? ⟨bl,ol+v*2,none⟩=some (.string (za (lo.getD v (0,0)).1))∧w.cell? ⟨bl,ol+v*2+1,none⟩=some (.string (za (lo.getD v (0,0)).2)):=fun v hv =>
  ⟨(hcl (v*2) (by omega)).trans (by rw [oR]),(hcl (v*2+1) (by omega)).trans (by rw [oS])⟩
 have hc2:∀ v,v<n+1→w.cell? ⟨bh,oh+v*2,none⟩=some (.string (za (hi.getD v (0,0)).1))∧w.cell? ⟨bh,oh+v*2+1,none⟩=some (.string (za (hi.getD v (0,0)).2)):=fun v hv =>
  ⟨(hch (v*2) (by omega)).trans (by rw [oR]),(hch (v*2+1) (by omega)).trans (by rw [oS])⟩
 have HC1:=zb hc1;have HC2:=zb hc2;have hadd:∀ W v,v<n+1→Calls Tryz.prog 27 #[zI (lo.getD v (0,0)).1 (lo.getD v (0,0)).2,zI (hi.getD v (0,0)).1 (hi.getD v (0,0)).2] W fun e w'=>e = .returned (zI (yl (lo.getD v (0,0)) (hi.getD v (0,0))).1 (yl (lo.getD v (0,0)) (hi.getD v (0,0))).2)∧Below W.heap.size W w':=fun W v hv=>by
  have s1:Sp (lo.getD v (0,0))∧Sp (hi.getD v (0,0)):=by
   rcases Nat.eq_zero_or_pos v with h0 | h0
   ·subst h0;exact ⟨hW.l0.sp,hW.h0.sp⟩
   ·have p1:=p_lit hW (-(v:Int));have p2:=p_lit hW (v:Int);unfold qC at p1 p2;rw [Int.natAbs_neg,Int.natAbs_natCast,if_pos ⟨h0,by omega⟩,if_pos (by omega)] at p1;rw [Int.natAbs_natCast,if_pos ⟨h0,by omega⟩,if_neg (by omega)] at p2;exact ⟨p1,p2⟩
  exact zjf W _ _ _ _ s1.1.1 s1.1.2 s1.2.1 s1.2.2
 have HAD:=zb hadd;have hmk:=gO n (by omega);clear hcl hch hc1 hc2 hadd hlo hhi;have hq0:W1 w (some ⟨bl,ol,none⟩) (some ⟨bh,oh,none⟩) cl ch n [] ((((w.alloc (.cells #[.slice (some ⟨bl,ol,none⟩) (n+1) cl,.slice (some ⟨bh,oh,none⟩) (n+1) ch] 39)).alloc (.cells #[.string ⟨#[]⟩,.string ⟨#[]⟩] 33)).alloc (.cells (madeCells #[.string ⟨#[]⟩,.string ⟨#[]⟩] ((n+1)*2)) 33)).alloc (.cells #[.slice (some ⟨w.heap.size+1+1,0,none⟩) (n+1) (n+1)] 37)) :=
  ⟨(((zF w _ _ _ 2 rfl rfl).alloc _).alloc _).alloc _,((zco _ _ _ (by simp)).alloc _).alloc _,(zeR _ _ _ _ (by simp)).alloc _,qF _ _ _ _ (by simp),
    ((((zx _ _).alloc (zu _) _).alloc (by simp) _).alloc (by simp;omega) _).alloc (by simp;omega) _⟩
 go_enter Tryz.func53, Tryz.ntmps53;go_wp2_with fail
 clear hmk;go_loopw [23] (fun t wr=>∃ k:Nat,k≤n+1∧t = .int .i64 k∧W1 w (some ⟨bl,ol,none⟩) (some ⟨bh,oh,none⟩) cl ch n (yi lo hi k) wr) (fun t _=>n+1-(intOf t).toNat)
 case atStart=>exact ⟨0,by omega,rfl,hq0⟩
 case round =>
  clear hq0;obtain ⟨k,hk,rfl,q⟩:=hrel;have w1:wr.cell? ⟨w.heap.size,0,none⟩=some (.slice (some ⟨bl,ol,none⟩) (n+1) cl):=q.wts.cell (i:=0) (by omega);have w2:wr.cell? ⟨w.heap.size,1,none⟩=some (.slice (some ⟨bh,oh,none⟩) (n+1) ch):=q.wts.cell (i:=1) (by omega);have b1:=zV q.bb;by_cases hlt:k<n+1
  ·obtain ⟨L1,L2⟩:=HC1.out k hlt;obtain ⟨H1,H2⟩:=HC2.out k hlt;have hadd:=fun W=>HAD.out W k hlt;have HBS:=zb (zk1 lo hi k);have hlen:=zhH lo hi k;generalize yl (lo.getD k (0,0)) (hi.getD k (0,0))=S at *
   generalize lo.getD k (0,0)=x at *
   generalize hi.getD k (0,0)=y at *
   obtain ⟨xn,xd⟩:=x;obtain ⟨yn,yd⟩:=y;have HADD:=zb hadd;have HLEN:=zb hlen;clear hadd hlen;have hi1:(0:Int)≤(k:Int):=by omega
   have hi2:(k:Int)<(n:Int)+1:=by omega
   have hi3:(k:Int)<((n+1:Nat):Int):=by omega
   go_wp2_with fail
   replace q:=q.drew;have w1:World.cell? _ ⟨w.heap.size,0,none⟩=some (.slice (some ⟨bl,ol,none⟩) (n+1) cl):=q.wts.cell (i:=0) (by omega);have w2:World.cell? _ ⟨w.heap.size,1,none⟩=some (.slice (some ⟨bh,oh,none⟩) (n+1) ch):=q.wts.cell (i:=1) (by omega);have b1:=zV q.bb;have l1:=zB q.bl hbl L1;have l2:=zB q.bl hbl L2;have h1:=zB q.bl hbh H1;have h2:=zB q.bl hbh H2;have f1:=q.both.frozen (k*2);have f2:=q.both.frozen (k*2+1);have hb1:=q.both.cell (i:=k*2) (by omega);have hb2:=q.both.cell (i:=k*2+1) (by omega);refine zb8 (fun w'=>w'.cell? ⟨w.heap.size+1+1+1,0,none⟩=some (.slice (some ⟨w.heap.size+1+1,0,none⟩) (n+1) (n+1))∧w'.cell? ⟨w.heap.size,0,none⟩=some (.slice (some ⟨bl,ol,none⟩) (n+1) cl)∧w'.cell? ⟨w.heap.size,1,none⟩=some (.slice (some ⟨bh,oh,none⟩) (n+1) ch)∧w'.cell? ⟨bl,ol+k*2,none⟩=some (.string (za xn))∧w'.cell? ⟨bl,ol+k*2+1,none⟩=some (.string (za xd))∧w'.cell? ⟨bh,oh+k*2,none⟩=some (.string (za yn))∧w'.cell? ⟨bh,oh+k*2+1,none⟩=some (.string (za yd))) 14 (by kernel_rfl) ⟨b1,w1,w2,l1,l2,h1,h2⟩ (fun hS=>?_);refine zM 0 (v:=?_) hS rfl (Or.inl ⟨by rfl,?_⟩) ?_;rotate_left
   ·(intro w hSw;go_simp;try with_reducible rfl)
   try simp only [Act.put,zj,zi,zh,zg,zf,ze]
   refine zM 1 (v:=?_) hS rfl (Or.inl ⟨by rfl,?_⟩) ?_;rotate_left
   ·(intro w hSw;go_simp;try with_reducible rfl)
   try simp only [Act.put,zj,zi,zh,zg,zf,ze]
   refine zM 2 (v:=?_) hS rfl (Or.inl ⟨by rfl,?_⟩) ?_;rotate_left
   ·(intro w hSw;go_simp;try with_reducible rfl)
   try simp only [Act.put,zj,zi,zh,zg,zf,ze]
   refine zM 3 (v:=?_) hS rfl (Or.inl ⟨by rfl,?_⟩) ?_;rotate_left
   ·(intro w hSw;go_simp;try with_reducible rfl)
   try simp only [Act.put,zj,zi,zh,zg,zf,ze]
   refine zM 4 (v:=?_) hS rfl (Or.inl ⟨by rfl,?_⟩) ?_;rotate_left
   ·(intro w hSw;go_simp;try with_reducible rfl)
   try simp only [Act.put,zj,zi,zh,zg,zf,ze]
   refine zM 5 (v:=?_) hS rfl (Or.inl ⟨by rfl,?_⟩) ?_;rotate_left
   ·(intro w hSw;go_simp;try with_reducible rfl)
   try simp only [Act.put,zj,zi,zh,zg,zf,ze]
   refine zM 6 (v:=?_) hS rfl (Or.inl ⟨by rfl,?_⟩) ?_;rotate_left
   ·(intro w hSw;go_simp;try with_reducible rfl)
   try simp only [Act.put,zj,zi,zh,zg,zf,ze]
   refine zM 7 (v:=?_) hS rfl (Or.inl ⟨by rfl,?_⟩) ?_;rotate_left
   ·(intro w hSw;go_simp;try with_reducible rfl)
   try simp only [Act.put,zj,zi,zh,zg,zf,ze]
   refine zM 8 (v:=?_) hS rfl (Or.inl ⟨by rfl,?_⟩) ?_;rotate_left
   ·(intro w hSw;go_simp;try with_reducible rfl)
   try simp only [Act.put,zj,zi,zh,zg,zf,ze]
   refine zM 9 (v:=?_) hS rfl (Or.inl ⟨by rfl,?_⟩) ?_;rotate_left
   ·(intro w hSw;go_simp;try with_reducible rfl)
   try simp only [Act.put,zj,zi,zh,zg,zf,ze]
   refine zM 10 (v:=?_) hS rfl (Or.inl ⟨by rfl,?_⟩) ?_;rotate_left
   ·(intro w hSw;go_simp;try with_reducible rfl)
   try simp only [Act.put,zj,zi,zh,zg,zf,ze]
   refine zM 11 (v:=?_) hS rfl (Or.inl ⟨by rfl,?_⟩) ?_;rotate_left
   ·(intro w hSw;go_simp;try with_reducible rfl)
   try simp only [Act.put,zj,zi,zh,zg,zf,ze]
   refine jU 12 (by kernel_rfl) rfl (fun K hK=>?_);go_simp;go_at_call 27;(with_reducible refine (HADD.out _).mono ?_);rintro e w3 ⟨rfl,hb3⟩;replace q:=q.below hb3;have w1:World.cell? _ ⟨w.heap.size,0,none⟩=some (.slice (some ⟨bl,ol,none⟩) (n+1) cl):=q.wts.cell (i:=0) (by omega);have w2:World.cell? _ ⟨w.heap.size,1,none⟩=some (.slice (some ⟨bh,oh,none⟩) (n+1) ch):=q.wts.cell (i:=1) (by omega);have b1:=zV q.bb;have l1:=zB q.bl hbl L1;have l2:=zB q.bl hbl L2;have h1:=zB q.bl hbh H1;have h2:=zB q.bl hbh H2;have f1:=q.both.frozen (k*2);have f2:=q.both.frozen (k*2+1);have hb1:=q.both.cell (i:=k*2) (by omega);have hb2:=q.both.cell (i:=k*2+1) (by omega);refine hK.out _ _ (fun _=>⟨b1,w1,w2,l1,l2,h1,h2⟩) (fun hS=>?_);replace hS:=hS (by decide);clear hK K;try simp only [Act.put,zj,zi,zh,zg,zf,ze]
   refine zM 13 (v:=?_) hS rfl (Or.inl ⟨by rfl,?_⟩) ?_;rotate_left
   ·(intro w hSw;go_simp;try with_reducible rfl)
   try simp only [Act.put,zj,zi,zh,zg,zf,ze]
   refine jU 14 (by kernel_rfl) rfl (fun K hK=>?_);go_simp;refine hK.out _ _ (fun h=>absurd rfl h) (fun _=>?_);clear hK K;refine zc1 (by kernel_rfl) ?_ _;all_goals
    try go_wp2
    go_roundw
    case rel=>exact ⟨k+1,by omega,by go_num,by rw [HBS.out];exact q.next S k HLEN.out.symm⟩
    case measure=>simp [intOf];omega
  ·obtain rfl:k=n+1:=by omega
   obtain ⟨hn0,hn1,hl0,hl1⟩:=qN hv;have hfm:=fun k hk=>jn hv k hk;have hpt:=fun k hk m=>p_part hW hv hd hs hn k hk m;have hat:=fun k hk j=>p_at hW hv hd hs hn k hk j;have hwd:=fun k hk j hj all hall m=>p_wide hW hv hd hs hn k hk j hj all hall m;have hown:=fun k hk j hj i h=>zeT hv k hk j hj i h;have hosub:=fun k (hk:k<N.l.length) i h=>zds hv (k+1) k (Nat.lt_succ_self k) hk i h;have hboth:=p_both hW;have hb0:Sp (yl (lo.getD 0 (0,0)) (hi.getD 0 (0,0))):=Sp_add0 hW.l0 hW.h0;obtain ⟨a1,a2⟩:wr.cell? ⟨ga,1,none⟩=some (.slice A N.l.length c)∧wr.cell? ⟨ga,2,none⟩=some (.slice (some ⟨go,0,none⟩) N.l.length N.l.length) :=
    ⟨zB q.bl hA.la (hA.ad.cell (i:=1) (by omega)),zB q.bl hA.la (hA.ad.cell (i:=2) (by omega))⟩
   have hmk:=jF N.l.length (by omega);have hga:ga<wr.heap.size:=Nat.lt_of_lt_of_le hA.la q.bl.size;have hE0:WE w (some ⟨bl,ol,none⟩) (some ⟨bh,oh,none⟩) cl ch n (yi lo hi (n+1)) [] wr.heap.size N.l.length (wr.alloc (.cells (madeCells #[.string ⟨#[]⟩,.string ⟨#[]⟩] (N.l.length*2)) 33)) :=
    ⟨q.alloc _,zeR wr _ _ _ rfl,q.bb.lt⟩
   have HFM:=zb hfm;have HPT:=zb hpt;have HAT:=zb hat;have HWD:=zb hwd;have HOWN:=zb hown;have HOS:=zb hosub;have HBT:=zb hboth;have HB0:=zb hb0;have hbp:∀ v,Sp ((yi lo hi (n+1)).getD v (0,0)):=fun v=>by
    rcases Nat.lt_or_ge v (n+1) with h | h
    ·rw [zhI h];rcases Nat.eq_zero_or_pos v with h0 | h0
     ·rw [h0];exact hb0
     ·rw [← oI (n:=n) h0 (by omega)];exact hboth _
    ·rw [List.getD_eq_getElem?_getD,List.getElem?_eq_none (by rw [zhH];exact h)];exact Sp.zero
   have HBP:=zb hbp;clear hbp;have HN:=zb hn;clear hfm hpt hat hwd hown hosub hboth hb0 hs hd w1 w2 b1;obtain ⟨Q,hQ⟩:∃ Q,wr.heap.size=Q:=⟨_,rfl⟩;rw [hQ] at hE0;have HQ:=zb hQ;clear hQ;go_wp2_with fail
   rw [HQ.out,show ((n+1:Nat):Int)=(n:Int)+1 from rfl];clear hmk a1 a2 hga q HQ;obtain ⟨O,hO⟩:∃ O,own N.l=O:=⟨_,rfl⟩;simp only [hO] at HPT HAT HWD HOWN HOS;have hOr:=hA.own;rw [hO] at hOr;have hOl:O.length=N.l.length:=by rw [← hO];exact zdt N.l
   have hsum:(RP n lo hi).sum N=(RP n lo hi).gap O (scan ((RP n lo hi).step O) [] N.l) (qo N.n) (N.l.length-1):=by unfold Rg.sum Rg.all;rw [hO]
   have HSUM:=zb hsum;have HVL:=zb hv;clear hsum hO hv;go_loopw [55] (fun t wr=>∃ k:Nat,k≤N.l.length∧t = .int .i64 k∧WE w (some ⟨bl,ol,none⟩) (some ⟨bh,oh,none⟩) cl ch n (yi lo hi (n+1)) (scan ((RP n lo hi).step O) [] (N.l.take k)) Q N.l.length wr) (fun t _=>N.l.length-(intOf t).toNat)
   case atStart=>exact ⟨0,by omega,rfl,hE0⟩
   case round =>
    clear hE0;rename_i wr0 _;obtain ⟨k,hk,rfl,hE⟩:=hrel;by_cases hlt:k<N.l.length
    ·obtain ⟨b,o,rfl,hbB,hcs⟩:=hA.net (by omega);have hnd:=hcs k hlt;clear hcs;have hfk:=HFM.out k hlt;have hxil:=HIN0.out k hlt;have hnext:=jT ((RP n lo hi).step O) N.l k hlt;have hLl:=yA ((RP n lo hi).step O) N.l k hk;have hpt:=fun m=>HPT.out k hlt m;have hat:=fun j=>HAT.out k hk j;have hwd:=fun j hj all hall m=>HWD.out k hk j hj all hall m;have hown:=fun j hj i h=>HOWN.out k hlt j hj i h;have hos:=fun i h=>HOS.out k hlt i h;obtain ⟨⟨xk,xl,xi⟩,hx⟩:∃ x,N.l[k]=x:=⟨_,rfl⟩;obtain ⟨L,hL⟩:∃ L,scan ((RP n lo hi).step O) [] (N.l.take k)=L:=⟨_,rfl⟩;rw [hx] at hnd hfk hxil;replace hxil:xi.length≤1000000:=hxil;simp only [hx,hL] at hpt hat hwd hown;rw [hx,hL] at hnext;rw [hL] at hLl hE;try simp only at hpt hat hwd hown hnext
     have HPT2:=zb hpt;have HAT2:=zb hat;have HWD2:=zb hwd;have HOWN2:=zb hown;have HOS2:=zb hos;have HNX:=zb hnext;clear hpt hat hwd hown hos hnext hx hL;obtain ⟨hk1,hk2,⟨A',c',hk3,hrd⟩,hr1,hr2,hr3,hr4⟩:=hnd;replace hk1:=zB hE.one.bl hbB hk1;replace hk2:=zB hE.one.bl hbB hk2;replace hk3:=zB hE.one.bl hbB hk3;have HRD:=zb hrd;clear hrd;obtain ⟨W0,rfl⟩:∃ W0,W0=wr:=⟨wr,rfl⟩;have hzQ:=hE.out.lt;have hEN:=hE.alloc (.cells #[.int .i64 xk,.int .i64 xl,.slice A' xi.length c'] 66);have hxN:=zF W0 #[.int .i64 xk,.int .i64 xl,.slice A' xi.length c'] 66 W0.heap.size 3 rfl rfl;have hi3:(0:Int)≤(k:Int):=by omega
     have hi4:(k:Int)<(N.l.length:Int):=by omega
     have hc0:=hEN.at k hlt (0,0) (by rw [List.getD_eq_getElem?_getD,List.getElem?_eq_none (by omega)];rfl);obtain ⟨hq1,hq2⟩:=hc0;have hf1:=hEN.out.frozen (k*2);have hf2:=hEN.out.frozen (k*2+1);have hx1:World.cell? (W0.alloc (.cells #[.int .i64 xk,.int .i64 xl,.slice A' xi.length c'] 66)) ⟨W0.heap.size,1,none⟩=some (.int .i64 xl):=hxN.cell (i:=1) (by omega);have hkd:((xk=0∨xk=1∨xk=2)∧xi.length=0)∨xk=3∨xk=4:=zb4 hfk;rcases hkd with ⟨hkk,hil⟩ | h3 | h4
     ·have hins:xi=[]:=List.length_eq_zero_iff.1 hil;rcases hkk with h0 | h1 | h2
      ·have b2:(xk==2)=false:=beq_eq_false_iff_ne.2 (by omega);have b1:(xk==1)=false:=beq_eq_false_iff_ne.2 (by omega);have b3:(xk==3)=false:=beq_eq_false_iff_ne.2 (by omega);have b4:(xk==4)=false:=beq_eq_false_iff_ne.2 (by omega);have hst:(RP n lo hi).step O L ⟨xk,xl,xi⟩=(0,0):=by
        unfold Rg.step Rg.start;dsimp only;rw [hins,if_neg (by omega),if_neg (by omega)];rfl
       have hnx:=HNX.out;rw [hst] at hnx;have HN2:=zb hnx;clear hst hnx h0 hins hil hfk;go_wp2;go_roundw
       case rel=>exact ⟨k+1,by omega,by go_num,by rw [HN2.out];exact hEN.zero⟩
       case measure=>simp [intOf];omega
      ·have b1:(xk==1)=true:=beq_iff_eq.2 (by omega);have hst:(RP n lo hi).step O L ⟨xk,xl,xi⟩=(1,1):=by
        unfold Rg.step Rg.start;dsimp only;rw [hins,if_neg (by omega),if_pos (by omega)];rfl
       have hnx:=HNX.out;rw [hst] at hnx;have HN2:=zb hnx;clear hst hnx h1 hins hil hfk;go_wp2_with (
        go_at_call 84;(with_reducible refine (gJ _).mono ?_);rintro e w3 ⟨rfl,hb3⟩;have hE3:=hEN.below hb3;clear hf1 hf2 hq1 hq2;have hf1:=hE3.out.frozen (k*2);have hf2:=hE3.out.frozen (k*2+1);obtain ⟨hq1,hq2⟩:=hE3.at k hlt (0,0) (by rw [List.getD_eq_getElem?_getD,List.getElem?_eq_none (by omega)];rfl))
       go_roundw
       case rel=>exact ⟨k+1,by omega,by go_num,by rw [HN2.out];exact hE3.next (1,1) k hLl.symm⟩
       case measure=>simp [intOf];omega
      ·have b2:(xk==2)=true:=beq_iff_eq.2 (by omega);have b1:(xk==1)=false:=beq_eq_false_iff_ne.2 (by omega);have hlk:qh xl N.n=true:=(zbP hfk h2).1;have hrg:=zbZ hlk;have hst:(RP n lo hi).step O L ⟨xk,xl,xi⟩=qC n lo hi xl:=by
        unfold Rg.step Rg.start;dsimp only;rw [hins,if_pos (by omega)];rfl
       have hnx:=HNX.out;rw [hst] at hnx;have hn':=HN.out;rw [hn'] at hrg;rcases hrg with ⟨r1,r2,r3⟩ | ⟨r1,r2,r3⟩
       ·obtain ⟨v,rfl⟩:∃ v:Nat,xl=(v:Int):=⟨xl.toNat,by omega⟩;have hpv:qC n lo hi (v:Int)=hi.getD v (0,0):=by
         unfold qC;rw [Int.natAbs_natCast,if_pos (by omega),if_neg (by omega)]
        obtain ⟨H1,H2⟩:=HC2.out v (by omega);rw [hpv] at hnx;generalize hi.getD v (0,0)=p at *
        obtain ⟨pn,pd⟩:=p;have HN2:=zb hnx;have hi5:¬ (v:Int)<0:=by omega
        have hi6:(0:Int)≤(v:Int):=by omega
        have hi7:(v:Int)<((n+1:Nat):Int):=by omega
        have hi8:(v:Int)<(n:Int)+1:=by omega
        have h1:=zB hE.one.bl hbh H1;have h2':=zB hE.one.bl hbh H2;have w2:W0.cell? ⟨w.heap.size,1,none⟩=some (.slice (some ⟨bh,oh,none⟩) (n+1) ch):=hE.one.wts.cell (i:=1) (by omega);have hz1:=hE.one.wts.lt;have hz2:bh<W0.heap.size:=Nat.lt_of_lt_of_le hbh hE.one.bl.size;clear hq1 hq2 hf1 hf2;obtain ⟨hq1,hq2⟩:=hE.at k hlt (0,0) (by rw [List.getD_eq_getElem?_getD,List.getElem?_eq_none (by omega)];rfl);have hf1:=hE.out.frozen (k*2);have hf2:=hE.out.frozen (k*2+1);clear hst hnx h2 hins hil hfk hlk hpv hn' r1 r2 r3 H1 H2;go_wp2_with fail
        go_roundw
        case rel=>exact ⟨k+1,by omega,by go_num,by rw [HN2.out];exact (hE.next (pn,pd) k hLl.symm).alloc _⟩
        case measure=>simp [intOf];omega
       ·obtain ⟨v,rfl⟩:∃ v:Nat,xl = -(v:Int):=⟨(-xl).toNat,by omega⟩;have hpv:qC n lo hi (-(v:Int))=lo.getD v (0,0):=by
         unfold qC;rw [Int.natAbs_neg,Int.natAbs_natCast,if_pos (by omega),if_pos (by omega)]
        obtain ⟨H1,H2⟩:=HC1.out v (by omega);rw [hpv] at hnx;generalize lo.getD v (0,0)=p at *
        obtain ⟨pn,pd⟩:=p;have HN2:=zb hnx;have hi5 : -(v:Int)<0:=by omega
        have hi6:(0:Int)≤(v:Int):=by omega
        have hi7:(v:Int)<((n+1:Nat):Int):=by omega
        have hi8:(v:Int)<(n:Int)+1:=by omega
        have h1:=zB hE.one.bl hbl H1;have h2':=zB hE.one.bl hbl H2;have w2:W0.cell? ⟨w.heap.size,0,none⟩=some (.slice (some ⟨bl,ol,none⟩) (n+1) cl):=hE.one.wts.cell (i:=0) (by omega);have hz1:=hE.one.wts.lt;have hz2:bl<W0.heap.size:=Nat.lt_of_lt_of_le hbl hE.one.bl.size;clear hq1 hq2 hf1 hf2;obtain ⟨hq1,hq2⟩:=hE.at k hlt (0,0) (by rw [List.getD_eq_getElem?_getD,List.getElem?_eq_none (by omega)];rfl);have hf1:=hE.out.frozen (k*2);have hf2:=hE.out.frozen (k*2+1);clear hst hnx h2 hins hil hfk hlk hpv hn' r1 r2 r3 H1 H2;go_wp2_with fail
        go_roundw
        case rel=>exact ⟨k+1,by omega,by go_num,by rw [HN2.out];exact (hE.next (pn,pd) k hLl.symm).alloc _⟩
        case measure=>simp [intOf];omega
     ·have b1:(xk==1)=false:=beq_eq_false_iff_ne.2 (by omega);have b2:(xk==2)=false:=beq_eq_false_iff_ne.2 (by omega);have b3:(xk==3)=true:=beq_iff_eq.2 (by omega);have hfold:∀ (ks:List Int) (s:Pr),(ks.map fun j=>L.getD j.toNat (0,0)).foldl qY s=ks.foldl ((RP n lo hi).in1 O L ⟨xk,xl,xi⟩) s:=by
       intro ks
       induction ks with
       | nil=>intro s;rfl
       | cons j ks ih =>
         intro s;have e1:(RP n lo hi).in1 O L ⟨xk,xl,xi⟩ s j=qY s (L.getD j.toNat (0,0)):=by unfold Rg.in1;rw [if_pos (.inr h3)];rfl
         show (ks.map _).foldl qY (qY s (L.getD j.toNat (0,0)))=ks.foldl _ ((RP n lo hi).in1 O L ⟨xk,xl,xi⟩ s j);rw [e1];exact ih _
      have hst0:(RP n lo hi).start ⟨xk,xl,xi⟩=(1,1):=by
       unfold Rg.start;dsimp only;rw [if_neg (by omega),if_pos (by omega)];rfl
      have hst:(RP n lo hi).step O L ⟨xk,xl,xi⟩=(xi.map fun j=>L.getD j.toNat (0,0)).foldl qY (1,1):=by
       rw [hfold];unfold Rg.step;rw [hst0]
      have hparts:∀ m,Sp (((xi.map fun j=>L.getD j.toNat (0,0)).take m).foldl qY (1,1)):=fun m=>by
       rw [← List.map_take,hfold];have:=HPT2.out m;rw [hst0] at this;exact this
      have hels:∀ m,Sp ((xi.map fun j=>L.getD j.toNat (0,0)).getD m (0,0)):=fun m=>by
       rcases Nat.lt_or_ge m xi.length with h | h
       ·rw [List.getD_eq_getElem?_getD,List.getElem?_map,List.getElem?_eq_getElem h];exact HAT2.out _
       ·rw [List.getD_eq_getElem?_getD,List.getElem?_map,List.getElem?_eq_none h];exact Sp.zero
      have hIN:=formed_ins hfk;have hnx:=HNX.out;rw [hst] at hnx;have HN2:=zb hnx;have HPS:=zb hparts;have HES:=zb hels;have HIN:Hid (∀ i,i<xi.length→∃ m:Nat,xi.getD i 0=(m:Int)∧m<k):=zb hIN;have hmk:=jF xi.length (by omega);have hx2:World.cell? (W0.alloc (.cells #[.int .i64 xk,.int .i64 xl,.slice A' xi.length c'] 66)) ⟨W0.heap.size,2,none⟩=some (.slice A' xi.length c'):=hxN.cell (i:=2) (by omega);clear hst hnx hparts hels hIN hfold hst0 hfk hq1 hq2 hf1 hf2 h3 hx1;have hEM:=hEN.alloc (.cells (madeCells #[.string ⟨#[]⟩,.string ⟨#[]⟩] (xi.length*2)) 33);have hG:=zeR (W0.alloc (.cells #[.int .i64 xk,.int .i64 xl,.slice A' xi.length c'] 66)) xi.length 33 (W0.heap.size+1) (by simp);go_wp2_with fail
      have hsz0:W0.heap.size+1+1≤((W0.alloc (.cells #[.int .i64 xk,.int .i64 xl,.slice A' xi.length c'] 66)).alloc (.cells (madeCells #[.string ⟨#[]⟩,.string ⟨#[]⟩] (xi.length*2)) 33)).heap.size:=by simp
      clear hmk hk1 hk2 hk3 hx2 hEN hxN;go_loopw [101] (fun t wq=>∃ m:Nat,m≤xi.length∧t = .int .i64 m∧wq.rowIs (W0.heap.size+1) 33 (xi.length*2) (zD ((xi.take m).map fun j=>L.getD j.toNat (0,0)))∧WE w (some ⟨bl,ol,none⟩) (some ⟨bh,oh,none⟩) cl ch n (yi lo hi (n+1)) L Q N.l.length wq∧W0.heap.size+1+1≤wq.heap.size) (fun t _=>xi.length-(intOf t).toNat)
      case atStart=>exact ⟨0,by omega,rfl,hG,hEM,hsz0⟩
      case round =>
       clear hG hEM hE hsz0;obtain ⟨m,hm,rfl,hG,hE,hsz0⟩:=hrel;have hQ1:Q<W0.heap.size+1:=by omega
       by_cases hmlt:m<xi.length
       ·obtain ⟨b',o',rfl,hbB',hcs⟩:=HRD.out (by omega);have hc:=zB hE.one.bl hbB' (hcs m hmlt);clear hcs;unfold zO at hc;obtain ⟨j,hj1,hj2⟩:=HIN.out m hmlt;rw [hj1] at hc;have hej:xi[m]=(j:Int):=by rw [← hj1];simp [List.getD,hmlt]
        have htk:(xi.take (m+1)).map (fun j=>L.getD j.toNat (0,0))=(xi.take m).map (fun j=>L.getD j.toNat (0,0))++[L.getD j (0,0)]:=by
         rw [List.take_succ_eq_append_getElem hmlt,List.map_append,hej];rfl
        have hlen:m=((xi.take m).map (fun j=>L.getD j.toNat (0,0))).length:=by simp;omega
        obtain ⟨hy1,hy2⟩:=hE.at j (by omega) _ rfl;generalize L.getD j (0,0)=y at *
        obtain ⟨yn,yd⟩:=y;have HTK:=zb htk;have HLN:=zb hlen;have hi1:(0:Int)≤(j:Int):=by omega
        have hi2:(j:Int)<(N.l.length:Int):=by omega
        have g1:=hG.frozen (m*2);have g2:=hG.frozen (m*2+1);have g3:=hG.cell (i:=m*2) (by omega);have g4:=hG.cell (i:=m*2+1) (by omega);have hrel:∀ W:World,W=(wr.setCell ⟨W0.heap.size+1,m*2,none⟩ (.string (za yn))).setCell ⟨W0.heap.size+1,m*2+1,none⟩ (.string (za yd)) →
          W.rowIs (W0.heap.size+1) 33 (xi.length*2) (zD ((xi.take (m+1)).map fun j=>L.getD j.toNat (0,0)))∧WE w (some ⟨bl,ol,none⟩) (some ⟨bh,oh,none⟩) cl ch n (yi lo hi (n+1)) L Q N.l.length W∧W0.heap.size+1+1≤W.heap.size:=by
         rintro W rfl;refine ⟨?_,(hE.far _ _ _ hQ1).far _ _ _ hQ1,by rw [yW,yW];exact hsz0⟩;rw [HTK.out];exact zeQ hG (yn,yd) m HLN.out
        have HREL:=zb hrel;clear hrel htk hlen hej hj1;go_wp2;go_roundw
        case rel=>exact ⟨m+1,by omega,by go_num,HREL.out _ rfl⟩
        case measure=>simp [intOf];omega
       ·obtain rfl:m=xi.length:=by omega
        rw [List.take_length] at hG;have hpr:=fun W hW=>zim W (W0.heap.size+1) xi.length xi.length (xi.map fun j=>L.getD j.toNat (0,0)) (by omega) (by simp) hW HES.out HPS.out;generalize (xi.map fun j=>L.getD j.toNat (0,0)).foldl qY (1,1)=S at *
        obtain ⟨sn,sd⟩:=S;have HPR:=zb hpr;clear hpr HES HPS;go_wp2_with (
         go_at_call 101;(with_reducible refine (HPR.out _ hG).mono ?_);rintro e w3 ⟨rfl,hb3⟩;have hE3:=hE.below hb3;have hf1:=hE3.out.frozen (k*2);have hf2:=hE3.out.frozen (k*2+1);obtain ⟨hq1,hq2⟩:=hE3.at k hlt (0,0) (by rw [List.getD_eq_getElem?_getD,List.getElem?_eq_none (by omega)];rfl))
        go_roundw
        case rel=>exact ⟨k+1,by omega,by go_num,by rw [HN2.out];exact hE3.next (sn,sd) k hLl.symm⟩
        case measure=>simp [intOf];omega
     ·have b1:(xk==1)=false:=beq_eq_false_iff_ne.2 (by omega);have b2:(xk==2)=false:=beq_eq_false_iff_ne.2 (by omega);have b3:(xk==3)=false:=beq_eq_false_iff_ne.2 (by omega);have b4:(xk==4)=true:=beq_iff_eq.2 (by omega);have hst0:(RP n lo hi).start ⟨xk,xl,xi⟩=(0,0):=by
       unfold Rg.start;dsimp only;rw [if_neg (by omega),if_neg (by omega)];rfl
      have hIN:=formed_ins hfk;have HIN:Hid (∀ i,i<xi.length→∃ m:Nat,xi.getD i 0=(m:Int)∧m<k):=zb hIN;have hin1:∀ s j,(RP n lo hi).in1 O L ⟨xk,xl,xi⟩ s j=yl s ((RP n lo hi).gap O L (O.getD k 0) j.toNat):=fun s j=>by
       unfold Rg.in1;dsimp only;rw [if_neg (by omega),hLl];rfl
      have hx2:World.cell? (W0.alloc (.cells #[.int .i64 xk,.int .i64 xl,.slice A' xi.length c'] 66)) ⟨W0.heap.size,2,none⟩=some (.slice A' xi.length c'):=hxN.cell (i:=2) (by omega);have HIN1:=zb hin1;have HST0:=zb hst0;clear hIN hin1 hst0 hfk hq1 hq2 hf1 hf2 h4 hx1;have hEz:=hEN.zero;go_wp2_with fail
      clear hk1 hk2 hk3 hx2 hEN hxN hE;go_loopw [124] (fun t wq=>∃ m:Nat,∃ s:Pr,m≤xi.length∧t = .int .i64 m∧Hid ((xi.take m).foldl ((RP n lo hi).in1 O L ⟨xk,xl,xi⟩) ((RP n lo hi).start ⟨xk,xl,xi⟩)=s)∧WE w (some ⟨bl,ol,none⟩) (some ⟨bh,oh,none⟩) cl ch n (yi lo hi (n+1)) (L++[s]) Q N.l.length wq) (fun t _=>xi.length-(intOf t).toNat)
      case atStart=>exact ⟨0,(0,0),by omega,rfl,zb (by rw [List.take_zero];exact HST0.out),hEz⟩
      case round =>
       clear hEz;obtain ⟨m,⟨sn,sd⟩,hm,rfl,HP,hE⟩:=hrel;by_cases hmlt:m<xi.length
       ·obtain ⟨b',o',rfl,hbB',hcs⟩:=HRD.out (by omega);have hc:=zB hE.one.bl hbB' (hcs m hmlt);clear hcs;unfold zO at hc;obtain ⟨j,hj1,hj2⟩:=HIN.out m hmlt;rw [hj1] at hc;have hej:xi[m]=(j:Int):=by rw [← hj1];simp [List.getD,hmlt]
        have hmem:(j:Int)∈xi:=by rw [← hej];exact List.getElem_mem hmlt
        have hall:∀ i,(O.getD j 0).testBit i=true→(O.getD k 0).testBit i=true:=fun i h=>HOWN2.out (j:Int) hmem i (by rw [Int.toNat_natCast];exact h);have hsz:Sp (sn,sd):=by rw [← HP.out];exact HPT2.out m
        have hvs:∀ v∈vl (zP (O.getD k 0) (O.getD j 0)),1≤v∧v≤(n:Int):=fun v hv=>by
         obtain ⟨i,hi1,rfl⟩:=zf1 hv;rw [p8,Bool.and_eq_true] at hi1;have:=HOS2.out i hi1.1;rw [HN.out] at this;omega
        have hgap:(RP n lo hi).gap O L (O.getD k 0) j=(RP n lo hi).wide (L.getD j (0,0)) (vl (zP (O.getD k 0) (O.getD j 0))):=rfl;have hzz:Sp ((RP n lo hi).gap O L (O.getD k 0) j):=by
         rw [hgap];have:=HWD2.out j hj2 (O.getD k 0) hall (vl (zP (O.getD k 0) (O.getD j 0))).length;rwa [List.take_length] at this
        have hfl:∀ W,WE w (some ⟨bl,ol,none⟩) (some ⟨bh,oh,none⟩) cl ch n (yi lo hi (n+1)) (L++[(sn,sd)]) Q N.l.length W→Calls Tryz.prog 98 #[zI (L.getD j (0,0)).1 (L.getD j (0,0)).2,qm (O.getD k 0),qm (O.getD j 0),.pointer (some ⟨w.heap.size+1+1+1,0,none⟩)] W fun e w' =>
          e = .returned (zI ((RP n lo hi).gap O L (O.getD k 0) j).1 ((RP n lo hi).gap O L (O.getD k 0) j).2)∧Below W.heap.size W w':=fun W hW=>by
         have hpf:∀ u:List Int,(∀ v∈u,1≤v∧v≤(n:Int))→pK (yi lo hi (n+1)) (L.getD j (0,0)) u=(RP n lo hi).wide (L.getD j (0,0)) u:=fun u hu=>(zgR _ u hu).symm;have:=zj2 W (L.getD j (0,0)).1 (L.getD j (0,0)).2 (O.getD k 0) (O.getD j 0) (w.heap.size+1+1+1) (w.heap.size+1+1) (n+1) (n+1) (yi lo hi (n+1)) (by omega) (zV hW.one.bb) hW.one.both
          (fun v hv=>by have:=hvs v hv;omega) HBP.out (fun i=>by
           show Sp (pK _ (L.getD j (0,0)) _);rw [hpf _ fun v hv=>hvs v (List.mem_of_mem_take hv)];exact HWD2.out j hj2 (O.getD k 0) hall i) (hT.below hW.one.bl)
         rw [show ((L.getD j (0,0)).1,(L.getD j (0,0)).2)=L.getD j (0,0) from rfl,hpf _ hvs,← hgap] at this;exact this
        have hnew:(xi.take (m+1)).foldl ((RP n lo hi).in1 O L ⟨xk,xl,xi⟩) ((RP n lo hi).start ⟨xk,xl,xi⟩)=yl (sn,sd) ((RP n lo hi).gap O L (O.getD k 0) j):=by
         rw [List.take_succ_eq_append_getElem hmlt,List.foldl_append,HP.out,hej];show (RP n lo hi).in1 O L ⟨xk,xl,xi⟩ (sn,sd) (j:Int)=_;rw [HIN1.out,Int.toNat_natCast]
        have hyL:∀ u:Pr,(L++[u]).getD j (0,0)=L.getD j (0,0):=fun u=>by
         rw [List.getD_eq_getElem?_getD,List.getD_eq_getElem?_getD,List.getElem?_append_left (by omega)]
        generalize (RP n lo hi).gap O L (O.getD k 0) j=z at *
        generalize L.getD j (0,0)=y at *
        generalize hsk:O.getD k 0=sk at *
        generalize hsj:O.getD j 0=sj at *
        obtain ⟨zn,zd⟩:=z;obtain ⟨yn,yd⟩:=y;have had:=fun W=>zjf W sn sd zn zd hsz.1 hsz.2 hzz.1 hzz.2;have HAD:=zb had;have HFL:=zb hfl;have HNEW:=zb hnew;have HYL:=zb hyL;have HSK:=zb hsk;have HSJ:=zb hsj;have hi1:(0:Int)≤(j:Int):=by omega
        have hi2:(j:Int)<(N.l.length:Int):=by omega
        have hgl:(L++[(sn,sd)]).getD k (0,0)=(sn,sd):=by rw [List.getD_eq_getElem?_getD,List.getElem?_append_right (by omega),hLl,Nat.sub_self];rfl
        have HGL:=zb hgl;have hjl:j<N.l.length:=by omega
        clear had hfl hnew hyL hsk hsj hgl hsz hzz hvs hgap hall hmem hej hj1;have hgo1:∀ W:World,Below w.heap.size w W→W.cell? ⟨ga,2,none⟩=some (.slice (some ⟨go,0,none⟩) N.l.length N.l.length)∧W.cell? ⟨go,k*2,none⟩=some (.int .u64 (Cs.lo sk:Int))∧W.cell? ⟨go,k*2+1,none⟩=some (.int .u64 (Cs.hi sk:Int))∧W.cell? ⟨go,j*2,none⟩=some (.int .u64 (Cs.lo sj:Int))∧W.cell? ⟨go,j*2+1,none⟩=some (.int .u64 (Cs.hi sj:Int)):=fun W hW=>by
         obtain ⟨p1,p2,_,_⟩:=qE hOr k (by omega);obtain ⟨p3,p4,_,_⟩:=qE hOr j (by omega);rw [HSK.out] at p1 p2;rw [HSJ.out] at p3 p4;exact ⟨zB hW hA.la (hA.ad.cell (i:=2) (by omega)),zB hW hA.lo p1,zB hW hA.lo p2,zB hW hA.lo p3,zB hW hA.lo p4⟩
        have HGO:=zb hgo1;clear hgo1;obtain ⟨W1',rfl⟩:∃ W1',W1'=wr:=⟨wr,rfl⟩;go_wp2_with fail
        replace hE:=hE.drew;obtain ⟨d1,d2,d3,d4,d5⟩:=HGO.out _ hE.one.bl;obtain ⟨s1,s2⟩:=hE.at k hlt (sn,sd) HGL.out;obtain ⟨y1,y2⟩:=hE.at j hjl (yn,yd) (HYL.out _);have f1:=hE.out.frozen (k*2);have f2:=hE.out.frozen (k*2+1);refine zb8 (fun w'=>w'.cell? ⟨ga,2,none⟩=some (.slice (some ⟨go,0,none⟩) N.l.length N.l.length)∧w'.cell? ⟨go,k*2,none⟩=some (.int .u64 (Cs.lo sk:Int))∧w'.cell? ⟨go,k*2+1,none⟩=some (.int .u64 (Cs.hi sk:Int))∧w'.cell? ⟨go,j*2,none⟩=some (.int .u64 (Cs.lo sj:Int))∧w'.cell? ⟨go,j*2+1,none⟩=some (.int .u64 (Cs.hi sj:Int))∧w'.cell? ⟨Q,k*2,none⟩=some (.string (za sn))∧w'.cell? ⟨Q,k*2+1,none⟩=some (.string (za sd))∧w'.cell? ⟨Q,j*2,none⟩=some (.string (za yn))∧w'.cell? ⟨Q,j*2+1,none⟩=some (.string (za yd))) 28 (by kernel_rfl) ⟨d1,d2,d3,d4,d5,s1,s2,y1,y2⟩ (fun hS=>?_);refine zM 0 (v:=?_) hS rfl (Or.inl ⟨by rfl,?_⟩) ?_;rotate_left
        ·(intro w hSw;go_simp;try with_reducible rfl)
        try simp only [Act.put,zj,zi,zh,zg,zf,ze]
        refine zM 1 (v:=?_) hS rfl (Or.inl ⟨by rfl,?_⟩) ?_;rotate_left
        ·(intro w hSw;go_simp;try with_reducible rfl)
        try simp only [Act.put,zj,zi,zh,zg,zf,ze]
        refine zM 2 (v:=?_) hS rfl (Or.inl ⟨by rfl,?_⟩) ?_;rotate_left
        ·(intro w hSw;go_simp;try with_reducible rfl)
        try simp only [Act.put,zj,zi,zh,zg,zf,ze]
        refine zM 3 (v:=?_) hS rfl (Or.inl ⟨by rfl,?_⟩) ?_;rotate_left
        ·(intro w hSw;go_simp;try with_reducible rfl)
        try simp only [Act.put,zj,zi,zh,zg,zf,ze]
        refine zM 4 (v:=?_) hS rfl (Or.inl ⟨by rfl,?_⟩) ?_;rotate_left
        ·(intro w hSw;go_simp;try with_reducible rfl)
        try simp only [Act.put,zj,zi,zh,zg,zf,ze]
        refine zM 5 (v:=?_) hS rfl (Or.inl ⟨by rfl,?_⟩) ?_;rotate_left
        ·(intro w hSw;go_simp;try with_reducible rfl)
        try simp only [Act.put,zj,zi,zh,zg,zf,ze]
        refine zM 6 (v:=?_) hS rfl (Or.inl ⟨by rfl,?_⟩) ?_;rotate_left
        ·(intro w hSw;go_simp;try with_reducible rfl)
        try simp only [Act.put,zj,zi,zh,zg,zf,ze]
        refine zM 7 (v:=?_) hS rfl (Or.inl ⟨by rfl,?_⟩) ?_;rotate_left
        ·(intro w hSw;go_simp;try with_reducible rfl)
        try simp only [Act.put,zj,zi,zh,zg,zf,ze]
        refine zM 8 (v:=?_) hS rfl (Or.inl ⟨by rfl,?_⟩) ?_;rotate_left
        ·(intro w hSw;go_simp;try with_reducible rfl)
        try simp only [Act.put,zj,zi,zh,zg,zf,ze]
        refine zM 9 (v:=?_) hS rfl (Or.inl ⟨by rfl,?_⟩) ?_;rotate_left
        ·(intro w hSw;go_simp;try with_reducible rfl)
        try simp only [Act.put,zj,zi,zh,zg,zf,ze]
        refine zM 10 (v:=?_) hS rfl (Or.inl ⟨by rfl,?_⟩) ?_;rotate_left
        ·(intro w hSw;go_simp;try with_reducible rfl)
        try simp only [Act.put,zj,zi,zh,zg,zf,ze]
        refine zM 11 (v:=?_) hS rfl (Or.inl ⟨by rfl,?_⟩) ?_;rotate_left
        ·(intro w hSw;go_simp;try with_reducible rfl)
        try simp only [Act.put,zj,zi,zh,zg,zf,ze]
        refine zM 12 (v:=?_) hS rfl (Or.inl ⟨by rfl,?_⟩) ?_;rotate_left
        ·(intro w hSw;go_simp;try with_reducible rfl)
        try simp only [Act.put,zj,zi,zh,zg,zf,ze]
        refine zM 13 (v:=?_) hS rfl (Or.inl ⟨by rfl,?_⟩) ?_;rotate_left
        ·(intro w hSw;go_simp;try with_reducible rfl)
        try simp only [Act.put,zj,zi,zh,zg,zf,ze]
        refine zM 14 (v:=?_) hS rfl (Or.inl ⟨by rfl,?_⟩) ?_;rotate_left
        ·(intro w hSw;go_simp;try with_reducible rfl)
        try simp only [Act.put,zj,zi,zh,zg,zf,ze]
        refine zM 15 (v:=?_) hS rfl (Or.inl ⟨by rfl,?_⟩) ?_;rotate_left
        ·(intro w hSw;go_simp;try with_reducible rfl)
        try simp only [Act.put,zj,zi,zh,zg,zf,ze]
        refine zM 16 (v:=?_) hS rfl (Or.inl ⟨by rfl,?_⟩) ?_;rotate_left
        ·(intro w hSw;go_simp;try with_reducible rfl)
        try simp only [Act.put,zj,zi,zh,zg,zf,ze]
        refine zM 17 (v:=?_) hS rfl (Or.inl ⟨by rfl,?_⟩) ?_;rotate_left
        ·(intro w hSw;go_simp;try with_reducible rfl)
        try simp only [Act.put,zj,zi,zh,zg,zf,ze]
        refine zM 18 (v:=?_) hS rfl (Or.inl ⟨by rfl,?_⟩) ?_;rotate_left
        ·(intro w hSw;go_simp;try with_reducible rfl)
        try simp only [Act.put,zj,zi,zh,zg,zf,ze]
        refine zM 19 (v:=?_) hS rfl (Or.inl ⟨by rfl,?_⟩) ?_;rotate_left
        ·(intro w hSw;go_simp;try with_reducible rfl)
        try simp only [Act.put,zj,zi,zh,zg,zf,ze]
        refine zM 20 (v:=?_) hS rfl (Or.inl ⟨by rfl,?_⟩) ?_;rotate_left
        ·(intro w hSw;go_simp;try with_reducible rfl)
        try simp only [Act.put,zj,zi,zh,zg,zf,ze]
        refine zM 21 (v:=?_) hS rfl (Or.inl ⟨by rfl,?_⟩) ?_;rotate_left
        ·(intro w hSw;go_simp;try with_reducible rfl)
        try simp only [Act.put,zj,zi,zh,zg,zf,ze]
        refine zM 22 (v:=?_) hS rfl (Or.inl ⟨by rfl,?_⟩) ?_;rotate_left
        ·(intro w hSw;go_simp;try with_reducible rfl)
        try simp only [Act.put,zj,zi,zh,zg,zf,ze]
        refine zM 23 (v:=?_) hS rfl (Or.inl ⟨by rfl,?_⟩) ?_;rotate_left
        ·(intro w hSw;go_simp;try with_reducible rfl)
        try simp only [Act.put,zj,zi,zh,zg,zf,ze]
        refine zM 24 (v:=?_) hS rfl (Or.inl ⟨by rfl,?_⟩) ?_;rotate_left
        ·(intro w hSw;go_simp;try with_reducible rfl)
        try simp only [Act.put,zj,zi,zh,zg,zf,ze]
        refine jU 25 (by kernel_rfl) rfl (fun K hK=>?_);go_simp;go_at_call 98;(with_reducible refine (HFL.out _ hE).mono ?_);rintro e w9 ⟨rfl,hb9⟩;replace hE:=hE.below hb9;obtain ⟨d1,d2,d3,d4,d5⟩:=HGO.out _ hE.one.bl;obtain ⟨s1,s2⟩:=hE.at k hlt (sn,sd) HGL.out;obtain ⟨y1,y2⟩:=hE.at j hjl (yn,yd) (HYL.out _);have f1:=hE.out.frozen (k*2);have f2:=hE.out.frozen (k*2+1);refine hK.out _ _ (fun _=>⟨d1,d2,d3,d4,d5,s1,s2,y1,y2⟩) (fun hS=>?_);replace hS:=hS (by decide);clear hK K;try simp only [Act.put,zj,zi,zh,zg,zf,ze]
        refine jU 26 (by kernel_rfl) rfl (fun K hK=>?_);go_simp;go_at_call 27;(with_reducible refine (HAD.out _).mono ?_);rintro e w9 ⟨rfl,hb9⟩;replace hE:=hE.below hb9;obtain ⟨d1,d2,d3,d4,d5⟩:=HGO.out _ hE.one.bl;obtain ⟨s1,s2⟩:=hE.at k hlt (sn,sd) HGL.out;obtain ⟨y1,y2⟩:=hE.at j hjl (yn,yd) (HYL.out _);have f1:=hE.out.frozen (k*2);have f2:=hE.out.frozen (k*2+1);refine hK.out _ _ (fun _=>⟨d1,d2,d3,d4,d5,s1,s2,y1,y2⟩) (fun hS=>?_);replace hS:=hS (by decide);clear hK K;try simp only [Act.put,zj,zi,zh,zg,zf,ze]
        refine zM 27 (v:=?_) hS rfl (Or.inl ⟨by rfl,?_⟩) ?_;rotate_left
        ·(intro w hSw;go_simp;try with_reducible rfl)
        try simp only [Act.put,zj,zi,zh,zg,zf,ze]
        refine jU 28 (by kernel_rfl) rfl (fun K hK=>?_);go_simp;refine hK.out _ _ (fun h=>absurd rfl h) (fun _=>?_);clear hK K;refine zc1 (by kernel_rfl) ?_ _;all_goals
         try go_wp2
         go_roundw
         case rel=>exact ⟨m+1,yl (sn,sd) (zn,zd),by omega,by go_num,HNEW,hE.last (yl (sn,sd) (zn,zd)) k hLl.symm⟩
         case measure=>simp [intOf];omega
       ·obtain rfl:m=xi.length:=by omega
        have hfo:=HP.out;rw [List.take_length] at hfo;have hst:(RP n lo hi).step O L ⟨xk,xl,xi⟩=(sn,sd):=hfo;have hnx:=HNX.out;rw [hst] at hnx;have HN2:=zb hnx;clear hfo hst hnx;go_wp2;go_roundw
        case rel=>exact ⟨k+1,by omega,by go_num,by rw [HN2.out];exact hE⟩
        case measure=>simp [intOf];omega
    ·obtain rfl:k=N.l.length:=by omega
     rw [List.take_length] at hE;obtain ⟨L,hL⟩:∃ L,scan ((RP n lo hi).step O) [] N.l=L:=⟨_,rfl⟩;have hat:=HAT.out N.l.length (zu _) (N.l.length-1);have hwd:=fun j hj all hall m=>HWD.out N.l.length (zu _) j hj all hall m;rw [List.take_length] at hat hwd;have hsum:=HSUM.out;rw [hL] at hE hat hwd hsum;clear hL;have hn2:=HN.out;rw [hn2] at hsum;have hall:∀ i,(O.getD (N.l.length-1) 0).testBit i=true→(qo (n:Int)).testBit i=true:=fun i h=>by
      have h2:=HOS.out (N.l.length-1) (by omega) i h;rw [hn2] at h2;rw [p6,decide_eq_true_eq];omega
     have hvs:∀ v∈vl (zP (qo (n:Int)) (O.getD (N.l.length-1) 0)),1≤v∧v≤(n:Int):=fun v hv=>by
      obtain ⟨i,hi1,rfl⟩:=zf1 hv;rw [p8,Bool.and_eq_true] at hi1;have h2:=hi1.1;rw [p6,decide_eq_true_eq] at h2;omega
     have hgap:(RP n lo hi).gap O L (qo (n:Int)) (N.l.length-1)=(RP n lo hi).wide (L.getD (N.l.length-1) (0,0)) (vl (zP (qo (n:Int)) (O.getD (N.l.length-1) 0))):=rfl;have hfl:∀ W,WE w (some ⟨bl,ol,none⟩) (some ⟨bh,oh,none⟩) cl ch n (yi lo hi (n+1)) L Q N.l.length W→Calls Tryz.prog 98 #[zI (L.getD (N.l.length-1) (0,0)).1 (L.getD (N.l.length-1) (0,0)).2,qm (qo (n:Int)),qm (O.getD (N.l.length-1) 0),.pointer (some ⟨w.heap.size+1+1+1,0,none⟩)] W fun e w' =>
       e = .returned (zI rn rd)∧Below W.heap.size W w':=fun W hW=>by
      have hpf:∀ u:List Int,(∀ v∈u,1≤v∧v≤(n:Int))→pK (yi lo hi (n+1)) (L.getD (N.l.length-1) (0,0)) u=(RP n lo hi).wide (L.getD (N.l.length-1) (0,0)) u:=fun u hu=>(zgR _ u hu).symm;have:=zj2 W (L.getD (N.l.length-1) (0,0)).1 (L.getD (N.l.length-1) (0,0)).2 (qo (n:Int)) (O.getD (N.l.length-1) 0) (w.heap.size+1+1+1) (w.heap.size+1+1) (n+1) (n+1) (yi lo hi (n+1)) (by omega) (zV hW.one.bb) hW.one.both
       (fun v hv=>by have:=hvs v hv;omega) HBP.out (fun i=>by
        show Sp (pK _ (L.getD (N.l.length-1) (0,0)) _);rw [hpf _ fun v hv=>hvs v (List.mem_of_mem_take hv)];exact hwd (N.l.length-1) (by omega) (qo (n:Int)) hall i) (hT.below hW.one.bl)
      rw [show ((L.getD (N.l.length-1) (0,0)).1,(L.getD (N.l.length-1) (0,0)).2)=L.getD (N.l.length-1) (0,0) from rfl,hpf _ hvs,← hgap,← hsum,HS.out] at this;exact this
     generalize hye:L.getD (N.l.length-1) (0,0)=y at *
     obtain ⟨yn,yd⟩:=y;have hsk:∀ W:World,Below w.heap.size w W→W.cell? ⟨ga,0,none⟩=some (.int .i64 (n:Int))∧W.cell? ⟨ga,2,none⟩=some (.slice (some ⟨go,0,none⟩) N.l.length N.l.length)∧W.cell? ⟨go,(N.l.length-1)*2,none⟩=some (.int .u64 (Cs.lo (O.getD (N.l.length-1) 0):Int))∧W.cell? ⟨go,(N.l.length-1)*2+1,none⟩=some (.int .u64 (Cs.hi (O.getD (N.l.length-1) 0):Int)):=fun W hW=>by
      obtain ⟨p1,p2,_,_⟩:=qE hOr (N.l.length-1) (by omega);exact ⟨by rw [← hn2];exact zB hW hA.la (hA.ad.cell (i:=0) (by omega)),zB hW hA.la (hA.ad.cell (i:=2) (by omega)),zB hW hA.lo p1,zB hW hA.lo p2⟩
     have hal:=fun W=>all_any W (n:Int);generalize O.getD (N.l.length-1) 0=sk at *
     obtain ⟨r,hr⟩:∃ r,N.l.length=r+1:=⟨N.l.length-1,by omega⟩;have er:N.l.length-1=r:=by omega
     rw [er] at hye hsk;have hirr:((N.l.length:Int)-1)=(r:Int):=by omega
     have HFL:=zb hfl;have HSK:=zb hsk;have HYE:=zb hye;have HAL:=zb hal;have HIR:=zb hirr;have HRR:=zb hr;have hi1:(0:Int)≤(r:Int):=by omega
     have hi2:(r:Int)<(N.l.length:Int):=by omega
     have hrl:r<N.l.length:=by omega
     clear hfl hsk hye hal hirr hr er hvs hall hat hwd hsum hgap hn2;go_wp2_with fail
     rw [HIR.out];replace hE:=hE.drew;obtain ⟨d1,d2,d3,d4⟩:=HSK.out _ hE.one.bl;obtain ⟨y1,y2⟩:=hE.at r hrl (yn,yd) HYE.out;obtain ⟨z1,z2⟩:=qj hE.one.res;have f1:=hE.one.res.frozen 0;have f2:=hE.one.res.frozen 1;refine zb8 (fun w'=>w'.cell? ⟨ga,0,none⟩=some (.int .i64 (n:Int))∧w'.cell? ⟨ga,2,none⟩=some (.slice (some ⟨go,0,none⟩) N.l.length N.l.length)∧w'.cell? ⟨go,r*2,none⟩=some (.int .u64 (Cs.lo sk:Int))∧w'.cell? ⟨go,r*2+1,none⟩=some (.int .u64 (Cs.hi sk:Int))∧w'.cell? ⟨Q,r*2,none⟩=some (.string (za yn))∧w'.cell? ⟨Q,r*2+1,none⟩=some (.string (za yd))) 19 (by kernel_rfl) ⟨d1,d2,d3,d4,y1,y2⟩ (fun hS=>?_);refine zM 0 (v:=?_) hS rfl (Or.inl ⟨by rfl,?_⟩) ?_;rotate_left
     ·(intro w hSw;go_simp;try with_reducible rfl)
     try simp only [Act.put,zj,zi,zh,zg,zf,ze]
     refine zM 1 (v:=?_) hS rfl (Or.inl ⟨by rfl,?_⟩) ?_;rotate_left
     ·(intro w hSw;go_simp;try with_reducible rfl)
     try simp only [Act.put,zj,zi,zh,zg,zf,ze]
     refine zM 2 (v:=?_) hS rfl (Or.inl ⟨by rfl,?_⟩) ?_;rotate_left
     ·(intro w hSw;go_simp;try with_reducible rfl)
     try simp only [Act.put,zj,zi,zh,zg,zf,ze]
     refine zM 3 (v:=?_) hS rfl (Or.inl ⟨by rfl,?_⟩) ?_;rotate_left
     ·(intro w hSw;go_simp;try with_reducible rfl)
     try simp only [Act.put,zj,zi,zh,zg,zf,ze]
     refine zM 4 (v:=?_) hS rfl (Or.inl ⟨by rfl,?_⟩) ?_;rotate_left
     ·(intro w hSw;go_simp;try with_reducible rfl)
     try simp only [Act.put,zj,zi,zh,zg,zf,ze]
     refine zM 5 (v:=?_) hS rfl (Or.inl ⟨by rfl,?_⟩) ?_;rotate_left
     ·(intro w hSw;go_simp;try with_reducible rfl)
     try simp only [Act.put,zj,zi,zh,zg,zf,ze]
     refine zM 6 (v:=?_) hS rfl (Or.inl ⟨by rfl,?_⟩) ?_;rotate_left
     ·(intro w hSw;go_simp;try with_reducible rfl)
     try simp only [Act.put,zj,zi,zh,zg,zf,ze]
     refine zM 7 (v:=?_) hS rfl (Or.inl ⟨by rfl,?_⟩) ?_;rotate_left
     ·(intro w hSw;go_simp;try with_reducible rfl)
     try simp only [Act.put,zj,zi,zh,zg,zf,ze]
     refine zM 8 (v:=?_) hS rfl (Or.inl ⟨by rfl,?_⟩) ?_;rotate_left
     ·(intro w hSw;go_simp;try with_reducible rfl)
     try simp only [Act.put,zj,zi,zh,zg,zf,ze]
     refine zM 9 (v:=?_) hS rfl (Or.inl ⟨by rfl,?_⟩) ?_;rotate_left
     ·(intro w hSw;go_simp;try with_reducible rfl)
     try simp only [Act.put,zj,zi,zh,zg,zf,ze]
     refine zM 11 (v:=?_) hS rfl (Or.inl ⟨by rfl,?_⟩) ?_;rotate_left
     ·(intro w hSw;go_simp;try with_reducible rfl)
     try simp only [Act.put,zj,zi,zh,zg,zf,ze]
     refine zM 12 (v:=?_) hS rfl (Or.inl ⟨by rfl,?_⟩) ?_;rotate_left
     ·(intro w hSw;go_simp;try with_reducible rfl)
     try simp only [Act.put,zj,zi,zh,zg,zf,ze]
     refine zM 13 (v:=?_) hS rfl (Or.inl ⟨by rfl,?_⟩) ?_;rotate_left
     ·(intro w hSw;go_simp;try with_reducible rfl)
     try simp only [Act.put,zj,zi,zh,zg,zf,ze]
     refine zM 14 (v:=?_) hS rfl (Or.inl ⟨by rfl,?_⟩) ?_;rotate_left
     ·(intro w hSw;go_simp;try with_reducible rfl)
     try simp only [Act.put,zj,zi,zh,zg,zf,ze]
     refine zM 15 (v:=?_) hS rfl (Or.inl ⟨by rfl,?_⟩) ?_;rotate_left
     ·(intro w hSw;go_simp;try with_reducible rfl)
     try simp only [Act.put,zj,zi,zh,zg,zf,ze]
     refine zM 16 (v:=?_) hS rfl (Or.inl ⟨by rfl,?_⟩) ?_;rotate_left
     ·(intro w hSw;go_simp;try with_reducible rfl)
     try simp only [Act.put,zj,zi,zh,zg,zf,ze]
     refine zM 17 (v:=?_) hS rfl (Or.inl ⟨by rfl,?_⟩) ?_;rotate_left
     ·(intro w hSw;go_simp;try with_reducible rfl)
     try simp only [Act.put,zj,zi,zh,zg,zf,ze]
     refine jU 10 (by kernel_rfl) rfl (fun K hK=>?_);go_simp;go_at_call 102;(with_reducible refine (HAL.out _).mono ?_);rintro e w9 ⟨rfl,hb9⟩;replace hE:=hE.below hb9;obtain ⟨d1,d2,d3,d4⟩:=HSK.out _ hE.one.bl;obtain ⟨y1,y2⟩:=hE.at r hrl (yn,yd) HYE.out;obtain ⟨z1,z2⟩:=qj hE.one.res;have f1:=hE.one.res.frozen 0;have f2:=hE.one.res.frozen 1;refine hK.out _ _ (fun _=>⟨d1,d2,d3,d4,y1,y2⟩) (fun hS=>?_);replace hS:=hS (by decide);clear hK K;try simp only [Act.put,zj,zi,zh,zg,zf,ze]
     refine jU 18 (by kernel_rfl) rfl (fun K hK=>?_);go_simp;go_at_call 98;(with_reducible refine (HFL.out _ hE).mono ?_);rintro e w9 ⟨rfl,hb9⟩;replace hE:=hE.below hb9;obtain ⟨d1,d2,d3,d4⟩:=HSK.out _ hE.one.bl;obtain ⟨y1,y2⟩:=hE.at r hrl (yn,yd) HYE.out;obtain ⟨z1,z2⟩:=qj hE.one.res;have f1:=hE.one.res.frozen 0;have f2:=hE.one.res.frozen 1;refine hK.out _ _ (fun _=>⟨d1,d2,d3,d4,y1,y2⟩) (fun hS=>?_);replace hS:=hS (by decide);clear hK K;try simp only [Act.put,zj,zi,zh,zg,zf,ze]
     refine jU 19 (by kernel_rfl) rfl (fun K hK=>?_);go_simp;refine hK.out _ _ (fun h=>absurd rfl h) (fun _=>?_);clear hK K;refine zc1 (by kernel_rfl) ?_ _;all_goals
      try go_wp2
      exact zcF rfl rn rd rfl (oT hE.one.res rn rd) rfl ⟨rfl,(hE.one.bl.setCell (by simp) _).setCell (by simp) _⟩
end Go.Proofs.YtmhllppjcilllaaGreatDoor
