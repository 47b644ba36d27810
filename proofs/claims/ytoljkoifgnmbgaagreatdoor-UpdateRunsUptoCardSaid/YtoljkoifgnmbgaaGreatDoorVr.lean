import Derived.Test.YtoljkoifgnmbgaaGreatDoorUi
set_option linter.unusedSimpArgs false
set_option linter.unusedVariables false
set_option maxRecDepth 100000
set_option maxHeartbeats 4000000
open Go Go.RowKit Cs
namespace Go.Proofs.YtoljkoifgnmbgaaGreatDoor
section
variable {w w1:World} {D E:Nat} {g:Sg} {N:Nt} {n:Nat} {lo hi:List Pr} {tv:Value} {T:List Int} {k:Int} {C1 C2 C3:List Nat} {P1 P2 P3:List Pr}
theorem SsAt.tE' (h:SsAt w D E g N n lo hi tv T k C1 C2 C3 P1 P2 P3) {x:Nat} (hx:tv.ownBlock=some x):E≤x:=by
 rcases Nat.lt_or_ge x E with h1 | h1
 ·exact absurd hx (h.tE h1)
 ·exact h1
theorem SsAt.pushed (h:SsAt w D E g N n lo hi tv T k C1 C2 C3 P1 P2 P3) (hg:w.grownBy w1 tv.ownBlock) {v':Value} {T':List Int} (tr:w1.ownsRow E 3 1 v' T'.length (T'.map (Value.int .i64)))
  (hat:v'.ownBlock=tv.ownBlock∨∃ X,v'.ownBlock=some X∧w.heap.size≤X):SsAt (w1.setCell ⟨g.b,3,none⟩ v') D E g N n lo hi v' T' k C1 C2 C3 P1 P2 P3:=by
 have hbl:∀ x,x<w.heap.size→tv.ownBlock≠some x→w1.heap[x]?=w.heap[x]?:=fun x hx hne=>hg.block x hx (Ne.symm hne);have hrow:∀ x∈g.rows,w1.heap[x]?=w.heap[x]?:=fun x hx=>hbl x (h.old x (List.mem_cons_of_mem _ hx)) (h.tR hx);have hnb:v'.ownBlock≠some g.b:=by
  rcases hat with e | ⟨X,e,hX⟩
  ·rw [e];exact h.tE h.ok.bE
  ·rw [e];intro e2;have e3:X=g.b:=by injection e2
   have:=h.lt;omega
 exact {
  row:=((h.row.of_block (hbl g.b h.lt (h.tE h.ok.bE))).set 3 _).congr fun i _=>by
   unfold sesF;by_cases h3:i=3
   ·subst h3;rfl
   ·rw [if_neg h3,if_neg h3,if_neg h3]
  ro:=(h.ro.go hg.size fun x _ hx _=>hbl x (Nat.lt_of_lt_of_le hx h.eU) (h.tE hx)).go (Nat.le_of_eq (zf _ _ _).symm) fun x _ _ hx=>Below.heap_setCell _ _ _ _ hx
  c1:=(h.c1.of_block (hrow _ (by simp [Sg.rows]))).setOther (Ne.symm (h.ok.bne (by simp [Sg.rows]))) _
  c2:=(h.c2.of_block (hrow _ (by simp [Sg.rows]))).setOther (Ne.symm (h.ok.bne (by simp [Sg.rows]))) _
  c3:=(h.c3.of_block (hrow _ (by simp [Sg.rows]))).setOther (Ne.symm (h.ok.bne (by simp [Sg.rows]))) _
  p1:=(h.p1.of_block (hrow _ (by simp [Sg.rows]))).setOther (Ne.symm (h.ok.bne (by simp [Sg.rows]))) _
  p2:=(h.p2.of_block (hrow _ (by simp [Sg.rows]))).setOther (Ne.symm (h.ok.bne (by simp [Sg.rows]))) _
  p3:=(h.p3.of_block (hrow _ (by simp [Sg.rows]))).setOther (Ne.symm (h.ok.bne (by simp [Sg.rows]))) _
  tr:=zbH tr hnb _
  ok:=h.ok
  tn:=fun x hx=>by
   rcases hat with e | ⟨X,e,hX⟩
   ·exact h.tn x (by rw [← e];exact hx)
   ·rw [e] at hx;injection hx with hx;intro hm;have:=h.old x (List.mem_cons_of_mem _ hm);omega
  eU:=by rw [zf];exact Nat.le_trans h.eU hg.size
  l1:=h.l1
  l2:=h.l2
  l3:=h.l3
  q1:=h.q1
  q2:=h.q2
  q3:=h.q3 }
def _root_.Cs.Sg.all (g:Sg) (tv:Value):List Nat:=g.b::g.rows++tv.ownBlock.toList
theorem _root_.Cs.Keep.ofGrown {a b:World} {v:Value} {S:List Nat} (h:a.grownBy b v.ownBlock) (hs:∀ x,v.ownBlock=some x→x∈S):Keep S a b :=
 ⟨h.os,h.tape,h.output,h.size,fun k hk hS=>h.block k hk fun e=>hS (hs k e.symm)⟩
theorem zfN {l:Int} {N:Nt} {n:Nat} (hn:N.n=(n:Int)) (hn2:n≤128) (h:qi l N.n=true):1≤l.natAbs∧l.natAbs≤n:=lit_range h hn hn2
theorem push_arg (l:Int) (hl1 : -9223372036854775808≤l) (hl2:l≤9223372036854775807) (h:SsAt w D E g N n lo hi tv T k C1 C2 C3 P1 P2 P3) (hv:zC N=true) (hb:qi l N.n=false) :
  Calls Tryz.prog 22 #[.pointer (some ⟨g.b,0,none⟩),.int .i64 l] w fun e w'=>e = .returned (.int .i64 1)∧w=w':=by
 have HN:=za (zcA h hv);have hva:=zcb w l N.n hl1 hl2;rw [hb] at hva;have HV:=za hva;have s1:w.cell? ⟨g.b,0,none⟩=some (.int .i64 N.n):=h.cell 0 (by decide) _ rfl;clear h hv hva hb;go_enter Tryz.func22, Tryz.ntmps22;go_wp2_with (first | (go_at_call 58;(with_reducible refine HN.out.mono ?_);rintro e w9 ⟨rfl,rfl⟩) | (go_at_call 62;(with_reducible refine HV.out.mono ?_);rintro e w9 ⟨rfl,rfl⟩))
 all_goals
  go_ret;exact ⟨rfl,rfl⟩
theorem zg4 (l:Int) (hl1 : -9223372036854775808≤l) (hl2:l≤9223372036854775807) (h:SsAt w D E g N n lo hi tv T k C1 C2 C3 P1 P2 P3) (hv:zC N=true) (hn:N.n=(n:Int)) (hb:qi l N.n=true) (hlen:T.length≤1000000) (ht:l∈T∨-l∈T) :
  Calls Tryz.prog 22 #[.pointer (some ⟨g.b,0,none⟩),.int .i64 l] w fun e w'=>e = .returned (.int .i64 4)∧Below w.heap.size w w':=by
 have hr:=zfN hn (yF hv hn) hb;have hn2:=yF hv hn;have HN:=za (zcA h hv);have hva:=zcb w l N.n hl1 hl2;rw [hb] at hva;have HV:=za hva;have s1:w.cell? ⟨g.b,0,none⟩=some (.int .i64 N.n):=h.cell 0 (by decide) _ rfl;obtain ⟨A,c,e,hrd⟩:=h.term;have s2:w.cell? ⟨g.b,3,none⟩=some (.slice A T.length c):=by rw [← e];exact h.cell 3 (by decide) _ rfl
 have hbw:=h.lt;have hw1:IntKind.i64.wrap (-l) = -l:=by rw [IntKind.wrap_i64];omega
 have s3:=fun W (hb:Below w.heap.size w W)=>zy hb s2 hbw;have hc1:=zcg w A c T l hlen hrd;have hc2:=fun W (hb:Below w.heap.size w W)=>zcg W A c T (-l) hlen ((hrd.below hb).more hb.size);clear h hv hva hb hrd e hr hn;by_cases h1:l∈T
 ·rw [decide_eq_true h1] at hc1;have HC1:=za hc1;clear hc1 hc2 ht h1;go_enter Tryz.func22, Tryz.ntmps22;go_wp2_with (first | (go_at_call 58;(with_reducible refine HN.out.mono ?_);rintro e w9 ⟨rfl,rfl⟩) | (go_at_call 62;(with_reducible refine HV.out.mono ?_);rintro e w9 ⟨rfl,rfl⟩) | (go_at_call 63;(with_reducible refine HC1.out.mono ?_);rintro e w9 ⟨rfl,hb9⟩))
  all_goals
   go_ret;exact ⟨rfl,hb9⟩
 ·have h2 : -l∈T:=ht.resolve_left h1;rw [decide_eq_false h1] at hc1;simp only [decide_eq_true h2] at hc2;have HC1:=za hc1;have HC2:=za hc2;clear hc1 hc2 ht h1 h2;go_enter Tryz.func22, Tryz.ntmps22;go_wp2_with (first | (go_at_call 58;(with_reducible refine HN.out.mono ?_);rintro e w9 ⟨rfl,rfl⟩) | (go_at_call 62;(with_reducible refine HV.out.mono ?_);rintro e w9 ⟨rfl,rfl⟩) | (go_at_call 63;(with_reducible refine HC1.out.mono ?_);rintro e w9 ⟨rfl,hb9⟩;have s4:=s3 _ hb9) | (go_at_call 63;(with_reducible refine (HC2.out _ hb9).mono ?_);rintro e w8 ⟨rfl,hb8⟩))
  all_goals
   go_ret;exact ⟨rfl,zu hb9 hb8 hb9.size⟩
theorem zjj {w:World} {base:Nat} {e:TypeId} {size:Nat} {v:Value} {n:Nat} {xs:List Value} (h:w.ownsRow base e size v (n+1) xs):∃ g cap,v = .slice (some ⟨g,0,none⟩) (n+1) cap:=by
 obtain ⟨_,h2⟩:=h;rcases h2 with ⟨_,h0⟩ | ⟨g,cap,cur,rfl,_⟩
 ·omega
 ·exact ⟨g,cap,rfl⟩
theorem SsAt.grownCell (h:SsAt w D E g N n lo hi tv T k C1 C2 C3 P1 P2 P3) (hg:w.grownBy w1 tv.ownBlock):w1.cell? ⟨g.b,3,none⟩=some tv∧w1.frozen? ⟨g.b,3,none⟩=false:=by
 have hb:w1.heap[g.b]?=w.heap[g.b]?:=hg.block g.b h.lt (Ne.symm (h.tE h.ok.bE));have r:=h.row.of_block hb;exact ⟨r.cell (i:=3) (by decide),r.frozen 3⟩
theorem gQ (l:Int) (h:y6 w D E g N n lo hi tv T k) (ok:SesOk N n lo hi T D) (hT:Tab w) (hlen:T.length<1000000) (hb:qi l N.n=true) (ht1:l ∉ T) (ht2 : -l ∉ T) :
  Calls Tryz.prog 22 #[.pointer (some ⟨g.b,0,none⟩),.int .i64 l] w fun e w'=>e = .returned (.int .i64 0)∧∃ tv',y6 w' D E g N n lo hi tv' (T++[l]) (qY N l.natAbs:Nat)∧Keep (g.all tv) w w'∧(tv'.ownBlock=tv.ownBlock∨∃ X,tv'.ownBlock=some X∧w.heap.size≤X):=by
 have hn2:=yF ok.hv ok.hn;have hr:=zfN ok.hn hn2 hb;obtain ⟨i0,hi0,hz0,hz1,hz2⟩:=info_parts zi6;have ok2:SesOk N n lo hi (T++[l]) D:=⟨ok.hv,ok.hd,ok.hs,ok.hn,ok.wt,ok.hb,ok.tk.snoc hr.1 hr.2 ht1 ht2,by simp;omega,ok.tb⟩;have HN:=za (zcA h ok.hv);have hva:=zcb w l N.n (by omega) (by omega);rw [hb] at hva;have HV:=za hva;have s1:w.cell? ⟨g.b,0,none⟩=some (.int .i64 N.n):=h.cell 0 (by decide) _ rfl;obtain ⟨A,c,e,hrd⟩:=h.term;subst e;have s2:w.cell? ⟨g.b,3,none⟩=some (.slice A T.length c):=h.cell 3 (by decide) _ rfl;have hbw:=h.lt;have hw1:IntKind.i64.wrap (-l) = -l:=by rw [IntKind.wrap_i64];omega
 have s3:=fun W (hb:Below w.heap.size w W)=>zy hb s2 hbw;have hc1:=zcg w A c T l (by omega) hrd;have hc2:=fun W (hb:Below w.heap.size w W)=>zcg W A c T (-l) (by omega) ((hrd.below hb).more hb.size);rw [decide_eq_false ht1] at hc1;simp only [decide_eq_false ht2] at hc2;have HC1:=za hc1;have HC2:=za hc2;have HH:=za h;have HOK:=za ok2;have HTT:=za hT;have HLEN:=za hlen;clear h hva hb hrd hr hc1 hc2 ok ok2 hT ht1 ht2 hlen;go_enter Tryz.func22, Tryz.ntmps22;go_upto_region 7 with (first | (go_at_call 58;(with_reducible refine HN.out.mono ?_);rintro e w9 ⟨rfl,rfl⟩) | (go_at_call 62;(with_reducible refine HV.out.mono ?_);rintro e w9 ⟨rfl,rfl⟩) | (go_at_call 63;(with_reducible refine HC1.out.mono ?_);rintro e w9 ⟨rfl,hb9⟩;have s4:=s3 _ hb9) | (go_at_call 63;(with_reducible refine (HC2.out _ hb9).mono ?_);rintro e w8 ⟨rfl,hb8⟩))
 have hbb:=zu hb9 hb8 hb9.size;have h8:=HH.out.below hbb;have s5:=s3 _ hbb;have h8a:=h8.alloc (.cells #[.int .i64 l] 3);have hsz:=hbb.size;have hbw8:=h8.lt;clear s1 s2 s4 hb9 hb8;go_cut [] from 33 to 42 (fun wx=>∃ tv',SsAt wx D E g N n lo hi tv' (T++[l]) k (qC n T) (qE n T) (gm N n T) (qk n lo T) (qm n hi T) (jK N n lo hi T)∧Keep (g.all (.slice A T.length c)) w wx∧(tv'.ownBlock=(Value.slice A T.length c).ownBlock∨∃ X,tv'.ownBlock=some X∧w.heap.size≤X))
 case first =>
  go_wp2_with (at_builtin;go_loud (refine wpList_append_own_at _ rfl _ _ 52 rfl E 3 i0 (.int .i64 0) 1 8 Tryz.underlying52 hi0 hz0 hz1 hz2 rfl (by decide) _ _ _ rfl h8a.tr ⟨w8.heap.size,0,none⟩ 1 1 [.int .i64 l] rfl rfl (qR) (zcL) (by have:=HLEN.out;unfold maxLen;omega) (by have:=HLEN.out;omega) h8a.eU ?_;intro v' w1 hown hgrow hnil hat;have c3:=(h8a.grownCell hgrow).1;have z3:=(h8a.grownCell hgrow).2;obtain ⟨gq,cq,ev⟩:=zjj hown;subst ev))
  all_goals
   go_meet;have hat2:(Value.slice (some ⟨gq,0,none⟩) (T.length+1) cq).ownBlock=(Value.slice A T.length c).ownBlock∨∃ X,(Value.slice (some ⟨gq,0,none⟩) (T.length+1) cq).ownBlock=some X∧(w8.alloc (.cells #[.int .i64 l] 3)).heap.size≤X:=hat.imp id fun e=>⟨_,e,zi _⟩;refine ⟨_,h8a.pushed (T':=T++[l]) hgrow (by simpa using hown) hat2,?_,hat.imp id fun e=>⟨_,e,?_⟩⟩
   ·have k1:Keep (g.all (.slice A T.length c)) w (w8.alloc (.cells #[.int .i64 l] 3)):=(Keep.of hbb _).alloc _;exact (k1.trans (Keep.ofGrown hgrow fun x hx=>by
     unfold Cs.Sg.all;have hx':(Value.slice A T.length c).ownBlock=some x:=hx;exact List.mem_append_right _ (by rw [hx'];simp))).set (Or.inl (by simp [Cs.Sg.all])) _
   ·simp;omega
 case rest =>
 obtain ⟨tv',q,kp,hat⟩:=hcut;have hTW:Tab wc:=fun j hj=>(zej (kp.block _ HTT.out.lt (fun (hm:1∈g.all (.slice A T.length c))=>by
  have h1:=HOK.out.tb;have h2:=HH.out.ok.bD;have h3:=HH.out.ok.bE;unfold Cs.Sg.all at hm;rcases List.mem_append.1 hm with hm | hm
  ·rcases List.mem_cons.1 hm with e | hm
   ·omega
   ·have:=HH.out.ok.rE _ hm;omega
  ·have:=HH.out.tE' (x:=1) (by simpa using hm);omega))).trans (HTT.out j hj)
 have hcl:=push_set wc l (-l) rfl q HOK.out hTW;have HCL:=za hcl;have HKP:=za kp;have HAT:=za hat;clear hcl hTW q kp hat h8 h8a s5 hbb;go_wp2_with (go_at_call 59;(with_reducible refine HCL.out.mono ?_);rintro e w7 ⟨rfl,q9,k9⟩)
 all_goals
  go_ret;exact ⟨rfl,tv',q9,HKP.out.trans (k9.more fun y hy=>List.mem_append_left _ hy),HAT.out⟩
theorem zke (h:SsAt w D E g N n lo hi tv [] k C1 C2 C3 P1 P2 P3) (hv:zC N=true) :
  Calls Tryz.prog 20 #[.pointer (some ⟨g.b,0,none⟩)] w fun e w'=>e = .returned (.int .i64 8)∧w=w':=by
 have HN:=za (zcA h hv);obtain ⟨A,c,e,hrd⟩:=h.term;have s2:w.cell? ⟨g.b,3,none⟩=some (.slice A 0 c):=by rw [show (Value.slice A 0 c)=tv from e.symm];exact h.cell 3 (by decide) _ rfl
 clear h hv hrd e;go_enter Tryz.func20, Tryz.ntmps20;go_wp2_with (go_at_call 58;(with_reducible refine HN.out.mono ?_);rintro e w9 ⟨rfl,rfl⟩)
 all_goals
  go_ret;exact ⟨rfl,rfl⟩
theorem zki {w:World} {base:Nat} {A:Option Addr} {c:Nat} {T:List Int} {l:Int} (h:w.ownsRow base 3 1 (.slice A (T.length+1) c) (T.length+1) ((T++[l]).map (Value.int .i64))):∃ b,A=some ⟨b,0,none⟩∧T.length+1≤c∧w.ownsRow base 3 1 (.slice A T.length c) T.length (T.map (Value.int .i64)):=by
 obtain ⟨h1,h2⟩:=h;rcases h2 with ⟨_,h0⟩ | ⟨g,cap,cur,e,hb,hg,hc,hm,hsz,htk⟩
 ·omega
 ·injection e with e1 e2 e3;subst e1 e3;refine ⟨g,rfl,hc,by simp,Or.inr ⟨g,c,cur,rfl,hb,hg,by omega,hm,hsz,?_⟩⟩;have:=congrArg (List.take T.length) htk;rw [List.take_take,Nat.min_eq_left (by omega)] at this;rw [Nat.mul_one,this,List.map_append,List.take_left' (by simp)]
theorem pop_ok (l:Int) (h:y6 w D E g N n lo hi tv (T++[l]) k) (ok:SesOk N n lo hi (T++[l]) D) (hT:Tab w) :
  Calls Tryz.prog 20 #[.pointer (some ⟨g.b,0,none⟩)] w fun e w'=>e = .returned (.int .i64 0)∧∃ tv',y6 w' D E g N n lo hi tv' T (qY N l.natAbs:Nat)∧Keep (g.all tv) w w'∧tv'.ownBlock=tv.ownBlock:=by
 have hn2:=yF ok.hv ok.hn;have hr:=ok.tk.last;have HN:=za (zcA h ok.hv);obtain ⟨A,c,e,hrd⟩:=h.term;have hlen:(T++[l]).length=T.length+1:=by simp
 rw [hlen] at e hrd;subst e;have htr:=h.tr;rw [hlen] at htr;obtain ⟨b,rfl,hcap,htr2⟩:=zki htr;obtain ⟨_,_,e,hbA,hcA⟩:=hrd (by omega);injection e with e;injection e with e1 e2;subst e1 e2;have cl:=hcA T.length (by omega);have cl:w.cell? ⟨b,T.length,none⟩=some (.int .i64 l):=by
  rw [Nat.zero_add] at cl;rw [cl];unfold zJ;rw [List.getD_eq_getElem?_getD,List.getElem?_append_right (zi _),Nat.sub_self];rfl
 have s2:w.cell? ⟨g.b,3,none⟩=some (.slice (some ⟨b,0,none⟩) (T.length+1) c):=h.cell 3 (by decide) _ rfl;have z2:=h.row.frozen 3;have hbw:=h.lt;have hw1:IntKind.i64.wrap (-l) = -l:=by rw [IntKind.wrap_i64];omega
 have htl:=ok.tl;rw [hlen] at htl;have q0:SsAt (w.setCell ⟨g.b,3,none⟩ (.slice (some ⟨b,0,none⟩) T.length c)) D E g N n lo hi (.slice (some ⟨b,0,none⟩) T.length c) T k (qC n (T++[l])) (qE n (T++[l])) (gm N n (T++[l])) (qk n lo (T++[l])) (qm n hi (T++[l])) (jK N n lo hi (T++[l])) :=
  h.pushed (T':=T) ⟨rfl,rfl,rfl,zi _,fun _ _ _=>rfl⟩ htr2 (Or.inl rfl)
 have k0:Keep (g.all (.slice (some ⟨b,0,none⟩) (T.length+1) c)) w (w.setCell ⟨g.b,3,none⟩ (.slice (some ⟨b,0,none⟩) T.length c)):=(Keep.refl _ _).set (Or.inl (by simp [Cs.Sg.all])) _;have hTW:Tab (w.setCell ⟨g.b,3,none⟩ (.slice (some ⟨b,0,none⟩) T.length c)):=fun j hj=>(zej (Below.heap_setCell _ _ _ _ (by
  have h1:=ok.tb;have h2:=h.ok.bD;show 1≠g.b;omega))).trans (hT j hj)
 have HCL:=za (pop_set _ l (-l) rfl q0 ok hTW);have HK:=za k0;have i1:(0:Int)≤(T.length:Int):=by omega
 have i2:(T.length:Int)<((T.length+1:Nat):Int):=by omega
 have i3:T.length≤c:=by omega
 have i4:(T.length:Int)≤(c:Int):=by omega
 have i5:(T.length:Int)<(T.length:Int)+1:=by omega
 have i6:c≠0:=by omega
 have hbb:=Nat.ne_of_lt (Nat.lt_of_lt_of_le h.ok.bE (h.tE' (x:=b) rfl));clear h ok hT hr hrd htr htr2 hcA q0 k0 hTW hlen;go_enter Tryz.func20, Tryz.ntmps20;go_wp2_with (first | (go_at_call 58;(with_reducible refine HN.out.mono ?_);rintro e w9 ⟨rfl,rfl⟩) | (go_at_call 59;(with_reducible refine HCL.out.mono ?_);rintro e w7 ⟨rfl,q9,k9⟩))
 all_goals
  go_ret;exact ⟨rfl,_,q9,HK.out.trans (k9.more fun y hy=>List.mem_append_left _ hy),rfl⟩
end
end Go.Proofs.YtoljkoifgnmbgaaGreatDoor
