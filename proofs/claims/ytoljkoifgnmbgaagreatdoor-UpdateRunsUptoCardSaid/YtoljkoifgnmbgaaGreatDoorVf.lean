import Derived.Test.YtoljkoifgnmbgaaGreatDoorVe
import Derived.Test.YtoljkoifgnmbgaaGreatDoorHq
set_option linter.unusedSimpArgs false
set_option linter.unusedVariables false
set_option maxRecDepth 100000
set_option maxHeartbeats 8000000
open Go Go.RowKit Cs
namespace Go.Proofs.YtoljkoifgnmbgaaGreatDoor
theorem ze3 {v:Nat} (h1:1≤v) (h2:v≤128):zQ (-(v:Int))=(v:Int):=by
 unfold zQ;rw [if_neg (by omega),if_pos (by omega)];omega
theorem ze2 {v:Nat} (h1:1≤v) (h2:v≤128):zQ (v:Int)=(v:Int):=by
 unfold zQ;rw [if_pos (by omega)]
theorem lit_r64n {v:Nat} (h2:v≤128) : -9223372036854775808≤-(v:Int)∧-(v:Int)≤9223372036854775807:=by omega
theorem lit_r64p {v:Nat} (h2:v≤128) : -9223372036854775808≤(v:Int)∧(v:Int)≤9223372036854775807:=by omega
structure SetAt (w:World) (D E:Nat) (g:Sg) (N:Nt) (n:Nat) (lo hi:List Pr) (tv:Value) (T:List Int) (k:Int) (C1 C2 C3:List Nat) (P1 P2 P3:List Pr) (sb vb cb xb v c:Nat) (x:Pr) (wr:World):Prop where
 ss:SsAt wr D E g N n lo hi tv T k C1 C2 C3 P1 P2 P3
 s:wr.rowIs sb 33 1 (zE #[.pointer (some ⟨g.b,0,none⟩)])
 v:wr.rowIs vb 3 1 (zE #[.int .i64 (v:Int)])
 c:wr.rowIs cb 54 1 (zE #[.string (zb c)])
 x:wr.rowIs xb 60 2 (zE #[.string (zb x.1),.string (zb x.2)])
 bl:Below w.heap.size w wr
 cx:cb≠xb
 lc:w.heap.size≤cb
 lx:w.heap.size≤xb
 cs:cb≠sb
 cv:cb≠vb
 xs:xb≠sb
 xv:xb≠vb
 old:∀ y∈g.b::g.rows,y<w.heap.size
 eW:E≤w.heap.size
 tW:∀ y,tv.ownBlock=some y→y<w.heap.size
 ls:w.heap.size≤sb
 lv:w.heap.size≤vb
section
variable {w wr w':World} {D E:Nat} {g:Sg} {N:Nt} {n:Nat} {lo hi:List Pr} {tv:Value} {T:List Int} {k:Int} {C1 C2 C3:List Nat} {P1 P2 P3:List Pr} {sb vb cb xb v c:Nat} {x:Pr}
theorem SsAt.old (h:SsAt w D E g N n lo hi tv T k C1 C2 C3 P1 P2 P3):∀ y∈g.b::g.rows,y<w.heap.size:=fun y hy=>by
 simp [Sg.rows] at hy;rcases hy with rfl | rfl | rfl | rfl | rfl | rfl | rfl
 ·exact h.lt
 ·exact h.c1.lt
 ·exact h.c2.lt
 ·exact h.c3.lt
 ·exact h.p1.lt
 ·exact h.p2.lt
 ·exact h.p3.lt
theorem SetAt.below (h:SetAt w D E g N n lo hi tv T k C1 C2 C3 P1 P2 P3 sb vb cb xb v c x wr) (hb:Below wr.heap.size wr w'):SetAt w D E g N n lo hi tv T k C1 C2 C3 P1 P2 P3 sb vb cb xb v c x w' :=
 ⟨h.ss.below hb,zh h.s hb,zh h.v hb,zh h.c hb,zh h.x hb,zu h.bl hb h.bl.size,h.cx,h.lc,h.lx,h.cs,h.cv,h.xs,h.xv,h.old,h.eW,h.tW,h.ls,h.lv⟩
theorem SsAt.far (h:SsAt w D E g N n lo hi tv T k C1 C2 C3 P1 P2 P3) {B:Nat} (hB:∀ y∈g.b::g.rows,y<B) (hE:E≤B) (ht:∀ y,tv.ownBlock=some y→y<B) (X i:Nat) (hX:B≤X) (u:Value):SsAt (w.setCell ⟨X,i,none⟩ u) D E g N n lo hi tv T k C1 C2 C3 P1 P2 P3:=by
 have ne:∀ y∈g.b::g.rows,y≠X:=fun y hy e=>by have:=hB y hy;omega
 exact ⟨h.row.setOther (ne g.b (by simp)) _,h.ro.go (Nat.le_of_eq (zf _ _ _).symm) fun y _ hy _=>Below.heap_setCell _ _ _ _ (by show y≠X;omega),
  h.c1.setOther (ne _ (by simp [Sg.rows])) _,h.c2.setOther (ne _ (by simp [Sg.rows])) _,h.c3.setOther (ne _ (by simp [Sg.rows])) _,h.p1.setOther (ne _ (by simp [Sg.rows])) _,h.p2.setOther (ne _ (by simp [Sg.rows])) _,h.p3.setOther (ne _ (by simp [Sg.rows])) _,
  zbH h.tr (fun e=>by have:=ht X e;omega) _,h.ok,h.tn,by rw [zf];exact h.eU,h.l1,h.l2,h.l3,h.q1,h.q2,h.q3⟩
theorem SsAt.tlt (h:SsAt w D E g N n lo hi tv T k C1 C2 C3 P1 P2 P3):∀ y,tv.ownBlock=some y→y<w.heap.size:=fun y hy=>by
 obtain ⟨_,h2⟩:=h.tr;rcases h2 with ⟨rfl,_⟩ | ⟨b,cap,cur,rfl,hb,hg,_⟩
 ·cases hy
 ·have:b=y:=by simpa [Value.ownBlock] using hy
  subst this;rcases Nat.lt_or_ge b w.heap.size with h' | h'
  ·exact h'
  ·rw [Array.getElem?_eq_none h'] at hg;cases hg
theorem SetAt.putX (h:SetAt w D E g N n lo hi tv T k C1 C2 C3 P1 P2 P3 sb vb cb xb v c x wr) (a d:Nat) :
  SetAt w D E g N n lo hi tv T k C1 C2 C3 P1 P2 P3 sb vb cb xb v c (a,d) ((wr.setCell ⟨xb,0,none⟩ (.string (zb a))).setCell ⟨xb,1,none⟩ (.string (zb d))) :=
 ⟨(h.ss.far h.old h.eW h.tW _ _ h.lx _).far h.old h.eW h.tW _ _ h.lx _,(h.s.setOther (Ne.symm h.xs) _).setOther (Ne.symm h.xs) _,(h.v.setOther (Ne.symm h.xv) _).setOther (Ne.symm h.xv) _,(h.c.setOther h.cx _).setOther h.cx _,yH h.x _ _,
   (h.bl.setCell (p:=⟨xb,0,none⟩) h.lx _).setCell (p:=⟨xb,1,none⟩) h.lx _,h.cx,h.lc,h.lx,h.cs,h.cv,h.xs,h.xv,h.old,h.eW,h.tW,h.ls,h.lv⟩
theorem SetAt.putC (h:SetAt w D E g N n lo hi tv T k C1 C2 C3 P1 P2 P3 sb vb cb xb v c x wr) (a:Nat) :
  SetAt w D E g N n lo hi tv T k C1 C2 C3 P1 P2 P3 sb vb cb xb v a x (wr.setCell ⟨cb,0,none⟩ (.string (zb a))) :=
 ⟨h.ss.far h.old h.eW h.tW _ _ h.lc _,h.s.setOther (Ne.symm h.cs) _,h.v.setOther (Ne.symm h.cv) _,oneRow h.c _,h.x.setOther (Ne.symm h.cx) _,
   h.bl.setCell (p:=⟨cb,0,none⟩) h.lc _,h.cx,h.lc,h.lx,h.cs,h.cv,h.xs,h.xv,h.old,h.eW,h.tW,h.ls,h.lv⟩
theorem SetAt.zero (h:SetAt w D E g N n lo hi tv T k C1 C2 C3 P1 P2 P3 sb vb cb xb v c x wr) :
  SetAt w D E g N n lo hi tv T k C1 C2 C3 P1 P2 P3 sb vb cb xb v 0 (0,0) (((wr.setCell ⟨cb,0,none⟩ (.string ⟨#[]⟩)).setCell ⟨xb,0,none⟩ (.string ⟨#[]⟩)).setCell ⟨xb,1,none⟩ (.string ⟨#[]⟩)):=by
 have:=(h.putC 0).putX 0 0;rw [yI] at this;exact this
theorem SetAt.made (h:SsAt wr D E g N n lo hi tv T k C1 C2 C3 P1 P2 P3) (h0:SsAt w D E g N n lo hi tv T k C1 C2 C3 P1 P2 P3) (hs:wr.rowIs sb 33 1 (zE #[.pointer (some ⟨g.b,0,none⟩)])) (hv:wr.rowIs vb 3 1 (zE #[.int .i64 (v:Int)]))
  (hc:wr.rowIs cb 54 1 (zE #[.string ⟨#[]⟩])) (hx:wr.rowIs xb 60 2 (zE #[.string ⟨#[]⟩,.string ⟨#[]⟩])) (hb:Below w.heap.size w wr) (hcx:cb≠xb) (h1:w.heap.size≤cb) (h2:w.heap.size≤xb)
  (h3:cb≠sb) (h4:cb≠vb) (h5:xb≠sb) (h6:xb≠vb) (h7:w.heap.size≤sb) (h8:w.heap.size≤vb) (a:Nat) (p:Pr) :
  SetAt w D E g N n lo hi tv T k C1 C2 C3 P1 P2 P3 sb vb cb xb v a p (((wr.setCell ⟨cb,0,none⟩ (.string (zb a))).setCell ⟨xb,0,none⟩ (.string (zb p.1))).setCell ⟨xb,1,none⟩ (.string (zb p.2))):=by
 have q:SetAt w D E g N n lo hi tv T k C1 C2 C3 P1 P2 P3 sb vb cb xb v 0 (0,0) wr:=⟨h,hs,hv,by rw [yI];exact hc,by rw [yI];exact hx,hb,hcx,h1,h2,h3,h4,h5,h6,h0.old,h0.eU,h0.tlt,h7,h8⟩;exact (q.putC a).putX p.1 p.2
theorem SetAt.sne (h:SetAt w D E g N n lo hi tv T k C1 C2 C3 P1 P2 P3 sb vb cb xb v c x wr) {y:Nat} (hy:y∈g.b::g.rows):sb≠y:=by have:=h.old y hy;have:=h.ls;omega
theorem SetAt.vne (h:SetAt w D E g N n lo hi tv T k C1 C2 C3 P1 P2 P3 sb vb cb xb v c x wr) {y:Nat} (hy:y∈g.b::g.rows):vb≠y:=by have:=h.old y hy;have:=h.lv;omega
theorem SetAt.cne (h:SetAt w D E g N n lo hi tv T k C1 C2 C3 P1 P2 P3 sb vb cb xb v c x wr) {y:Nat} (hy:y∈g.b::g.rows):cb≠y:=by have:=h.old y hy;have:=h.lc;omega
theorem SetAt.xne (h:SetAt w D E g N n lo hi tv T k C1 C2 C3 P1 P2 P3 sb vb cb xb v c x wr) {y:Nat} (hy:y∈g.b::g.rows):xb≠y:=by have:=h.old y hy;have:=h.lx;omega
theorem zjP (w:World) (v c:Nat) (x:Pr) (zero:Bool) (h:SsAt w D E g N n lo hi tv T k C1 C2 C3 P1 P2 P3) (hT:Tab w) (hTb:1<D) (hv:zC N=true) (hd:qv N=true) (hs:qQ N=true) (hn:N.n=(n:Int))
  (hv1:1≤v) (hv2:v≤n) (hc:c=if zero=true then 0 else 1) (hx:x=if zero=true then (0,0) else lo.getD v (0,0))
  (h1:∀ k,(C1.set v c).getD k 0≤1) (h2:∀ k,C2.getD k 0≤1) (hW:WtOk n (P1.set v x) P2) (hp1:∀ k,Sp ((P1.set v x).getD k (0,0))) (hp2:∀ k,Sp (P2.getD k (0,0)))
  (CA:List Nat) (PA:List Pr) (hCA:CA=(RL n (C1.set v c) C2).all (own N.l) N.l) (hPA:PA=(RP n (P1.set v x) P2).all (own N.l) N.l) (hs3:∀ j,n8 (C3.getD j 0)≤100000) (hsp:∀ j,Sp (P3.getD j (0,0)))
  (hC:∀ j,j<N.l.length→((own N.l).getD j 0).testBit (v-1)=false→C3.getD j 0=CA.getD j 0) (hP:∀ j,j<N.l.length→((own N.l).getD j 0).testBit (v-1)=false→P3.getD j (0,0)=PA.getD j (0,0)) :
  Calls Tryz.prog 59 #[.pointer (some ⟨g.b,0,none⟩),.int .i64 (-(v:Int)),.bool zero] w fun e w'=>e = .returned (.tuple #[])∧SsAt w' D E g N n lo hi tv T (qY N v:Nat) (C1.set v c) C2 CA (P1.set v x) P2 PA∧Keep (g.b::g.rows) w w':=by
 have hn128:=yF hv hn;have hlv:=ze3 hv1 (Nat.le_trans hv2 hn128);obtain ⟨hl1,hl2⟩:=lit_r64n (Nat.le_trans hv2 hn128);have hva:∀ W,Calls Tryz.prog 91 #[.int .i64 (-(v:Int))] W fun e w'=>e = .returned (.int .i64 (v:Int))∧W=w':=fun W=>by
  have:=zdz W _ hl1 hl2;rw [hlv] at this;exact this
 have HVA:=za hva;have hea:=fun W sb vb k' (hq:SsAt W D E g N n lo hi tv T k' (C1.set v c) C2 C3 (P1.set v x) P2 P3) (hTW:Tab W) hsb hvb hS1 hS2=>zfQ W sb vb v hv1 hv2 hsb hvb hS1 hS2 hq hTW hTb hv hd hs hn h1 h2 hW hp1 hp2 _ rfl CA PA hCA hPA hs3 hsp hC hP;have HEA:=za hea;have HCC:=za hc;have HXX:=za hx;have HTT:=za hT;obtain ⟨y,hy⟩:∃ y,y=lo.getD v (0,0):=⟨_,rfl⟩;have HY:=za hy;have a1:=(zU w #[.pointer (some ⟨g.b,0,none⟩)] 33 w.heap.size 1 rfl rfl).alloc (.cells #[.int .i64 (v:Int)] 3);have a2:=zU (w.alloc (.cells #[.pointer (some ⟨g.b,0,none⟩)] 33)) #[.int .i64 (v:Int)] 3 (w.heap.size+1) 1 (by simp) rfl;have a3:=((Below.refl w.heap.size w).alloc (zi _) (.cells #[.pointer (some ⟨g.b,0,none⟩)] 33)).alloc (by simp) (.cells #[.int .i64 (v:Int)] 3);have HSS:=za h;clear hva hlv hea hc hx hT hy h1 h2 hW hp1 hp2 hCA hPA hs3 hsp hC hP h;have jp:0<v:=hv1;go_enter Tryz.func59, Tryz.ntmps59;go_upto_region 1 with (fail)
 go_cut [6] from 9 to 10 (fun p wx=>p = .pointer (some ⟨w.heap.size+1,0,none⟩)∧wx.rowIs w.heap.size 33 1 (zE #[.pointer (some ⟨g.b,0,none⟩)])∧wx.rowIs (w.heap.size+1) 3 1 (zE #[.int .i64 (v:Int)])∧Below w.heap.size w wx)
 case first =>
  go_wp2_with (go_at_call 91;refine (HVA.out _).mono ?_;rintro e w6 ⟨rfl,rfl⟩)
  all_goals
   go_meet;exact ⟨by simp,a1,a2,a3⟩
 case rest =>
 obtain ⟨rfl,a1,a2,a3⟩:=hcut;have q0:=HSS.out.below a3;obtain ⟨bH,oH,eH,hbH,hcH⟩:=q0.ro.now.2.2.2 (by omega);have s2:wc.cell? ⟨g.b,19,none⟩=some (.slice g.Wh (n+1) g.eh):=q0.cell 19 (by decide) _ rfl;rw [eH] at s2;have s1:wc.cell? ⟨w.heap.size,0,none⟩=some (.pointer (some ⟨g.b,0,none⟩)):=a1.cell (i:=0) (by decide);have s3:wc.cell? ⟨w.heap.size+1,0,none⟩=some (.int .i64 (v:Int)):=a2.cell (i:=0) (by decide);have s4:wc.cell? ⟨bH,oH+v*2,none⟩=some (.string (zb (hi.getD v (0,0)).1)):=(hcH (v*2) (by omega)).trans (by rw [jB]);have s5:wc.cell? ⟨bH,oH+v*2+1,none⟩=some (.string (zb (hi.getD v (0,0)).2)):=(hcH (v*2+1) (by omega)).trans (by rw [jC]);have hsbl:=a1.lt;have hvbl:=a2.lt;have hbw:=q0.lt;obtain ⟨z,hz⟩:∃ z,hi.getD v (0,0)=z:=⟨_,rfl⟩;rw [hz] at s4 s5;have HZ:=za hz;obtain ⟨hn',hd'⟩:=z;have j1:(0:Int)≤(v:Int):=by omega
 have j2:(v:Int)<(n:Int)+1:=by omega
 have HQ0:=za q0;clear eH hcH hz q0;go_upto_region 2 with (fail)
 go_cut [7,8] from 11 to 19 (fun p r wx=>∃ cb xb,p = .pointer (some ⟨cb,0,none⟩)∧r = .pointer (some ⟨xb,0,none⟩)∧SetAt w D E g N n lo hi tv T k C1 C2 C3 P1 P2 P3 w.heap.size (w.heap.size+1) cb xb v 1 (hn',hd') wx)
 case first =>
  have HS:Hid (∀ W,Below wc.heap.size wc W→W.cell? ⟨w.heap.size,0,none⟩=some (.pointer (some ⟨g.b,0,none⟩))∧W.cell? ⟨g.b,19,none⟩=some (.slice (some ⟨bH,oH,none⟩) (n+1) g.eh)∧W.cell? ⟨w.heap.size+1,0,none⟩=some (.int .i64 (v:Int))∧W.cell? ⟨bH,oH+v*2,none⟩=some (.string (zb hn'))∧W.cell? ⟨bH,oH+v*2+1,none⟩=some (.string (zb hd'))):=za fun W hb=>⟨zy hb s1 hsbl,zy hb s2 hbw,zy hb s3 hvbl,zy hb s4 hbH,zy hb s5 hbH⟩;refine zbF (n:=_) (PX:=[zc (zD 1),
     zc (.pointer (some ⟨g.b,0,none⟩)),
     zc (.pointer (some ⟨g.b,0,none⟩)),
     zc (.pointer (some ⟨g.b,18,none⟩)),
     zc (.pointer (some ⟨g.b,19,none⟩)),
     zc (.slice (some ⟨bH,oH,none⟩) (n+1) g.eh),
     zc (.int .i64 (v:Int)),
     zc (.pointer (some ⟨bH,oH+v*2,none⟩)),
     zc (.agg #[.string (zb hn'),.string (zb hd')]),
     fun xl xv xw=>∃ X,xv = .pointer (some ⟨X,0,none⟩)∧wc.heap.size≤X∧World.rowIs xw X 54 1 (zE #[.string ⟨#[]⟩]),
     fun xl xv xw=>∃ X,xv = .pointer (some ⟨X,0,none⟩)∧wc.heap.size≤X∧World.rowIs xw X 60 2 (zE #[.string ⟨#[]⟩,.string ⟨#[]⟩])])
    (AL:=[9,10]) (DP:=[[],[],[1],[2],[3],[4],[],[5,6],[7],[],[]]) (L1:=[0,9,10]) (ex:=[1,2,3,4,5,6,7,8]) (by kernel_rfl) rfl (by kernel_rfl) (by kernel_rfl) (fun _ _ _ _ _ h=>h) ?_ ?_ ?_ ?_
  ·repeat' first|exact zO|refine ze ?_ ?_|exact fun _ _ _ _ h _=>h|fail
   ·exact fun l v w w2 h hb=>by obtain ⟨X,h1,h2,h3⟩:=h;exact ⟨X,h1,h2,zh h3 hb⟩
   ·exact fun l v w w2 h hb=>by obtain ⟨X,h1,h2,h3⟩:=h;exact ⟨X,h1,h2,zh h3 hb⟩
  ·refine ze ?_ (ze ?_ (ze ?_ zO))
   ·refine qo rfl [] ?_;intro vs W hW hd K hK;clear hd;try simp only [zo,Act.put,zx,zw,zv,zm,zl,zk] at hK ⊢
    go_simp;go_at_call 47;(with_reducible first | refine (zfG _).mono ?_);rintro e w9 ⟨rfl,hb9⟩;exact hK.out _ _ (rfl) hb9 (fun h=>absurd h (by decide))
   ·refine qo rfl [] ?_;intro vs W hW hd K hK;clear hd;try simp only [zo,Act.put,zx,zw,zv,zm,zl,zk] at hK ⊢
    go_simp;exact hK.out _ _ ⟨W.heap.size,rfl,hW.size,zU _ _ _ _ _ rfl rfl⟩ ((zA _ _).alloc (zi _) _) (fun _ b hb=>by simp [zV] at hb;subst hb;exact ⟨zi _,by simp⟩)
   ·refine qo rfl [] ?_;intro vs W hW hd K hK;clear hd;try simp only [zo,Act.put,zx,zw,zv,zm,zl,zk] at hK ⊢
    go_simp;exact hK.out _ _ ⟨W.heap.size,rfl,hW.size,zU _ _ _ _ _ rfl rfl⟩ ((zA _ _).alloc (zi _) _) (fun _ b hb=>by simp [zV] at hb;subst hb;exact ⟨zi _,by simp⟩)
  ·refine ze ?_ (ze ?_ (ze ?_ (ze ?_ (ze ?_ (ze ?_ (ze ?_ (ze ?_ zO)))))))
   ·refine YieldG.intro rfl [] (by kernel_rfl) (fun _=>.pointer (some ⟨g.b,0,none⟩)) rfl ?_;intro vs W hW0 hd;clear hd;refine ⟨rfl,fun w2 hW2=>?_⟩;obtain ⟨m1,m2,m3,m4,m5⟩:=HS.out w2 (zu (qw (zA _ _) 1) hW2 (zi _));try simp only [zo,Act.put,zx,zw,zv,zm,zl,zk]
    go_simp
   ·refine YieldG.intro rfl [(1,some 12)] (by kernel_rfl) (fun _=>.pointer (some ⟨g.b,0,none⟩)) rfl ?_;intro vs W hW0 hd;have d1:vs 1 = .pointer (some ⟨g.b,0,none⟩):=hd 1 (by decide);clear hd;refine ⟨rfl,fun w2 hW2=>?_⟩;try simp only [d1,zo,Act.put,zx,zw,zv,zm,zl,zk]
    go_simp
   ·refine YieldG.intro rfl [(2,some 13)] (by kernel_rfl) (fun _=>.pointer (some ⟨g.b,18,none⟩)) rfl ?_;intro vs W hW0 hd;have d2:vs 2 = .pointer (some ⟨g.b,0,none⟩):=hd 2 (by decide);clear hd;refine ⟨rfl,fun w2 hW2=>?_⟩;obtain ⟨m1,m2,m3,m4,m5⟩:=HS.out w2 (zu (qw (zA _ _) 1) hW2 (zi _));try simp only [d2,zo,Act.put,zx,zw,zv,zm,zl,zk]
    go_simp
   ·refine YieldG.intro rfl [(3,some 14)] (by kernel_rfl) (fun _=>.pointer (some ⟨g.b,19,none⟩)) rfl ?_;intro vs W hW0 hd;have d3:vs 3 = .pointer (some ⟨g.b,18,none⟩):=hd 3 (by decide);clear hd;refine ⟨rfl,fun w2 hW2=>?_⟩;obtain ⟨m1,m2,m3,m4,m5⟩:=HS.out w2 (zu (qw (zA _ _) 1) hW2 (zi _));try simp only [d3,zo,Act.put,zx,zw,zv,zm,zl,zk]
    go_simp
   ·refine YieldG.intro rfl [(4,some 15)] (by kernel_rfl) (fun _=>.slice (some ⟨bH,oH,none⟩) (n+1) g.eh) rfl ?_;intro vs W hW0 hd;have d4:vs 4 = .pointer (some ⟨g.b,19,none⟩):=hd 4 (by decide);clear hd;refine ⟨rfl,fun w2 hW2=>?_⟩;obtain ⟨m1,m2,m3,m4,m5⟩:=HS.out w2 (zu (qw (zA _ _) 1) hW2 (zi _));try simp only [d4,zo,Act.put,zx,zw,zv,zm,zl,zk]
    go_simp
   ·refine YieldG.intro rfl [] (by kernel_rfl) (fun _=>.int .i64 (v:Int)) rfl ?_;intro vs W hW0 hd;clear hd;refine ⟨rfl,fun w2 hW2=>?_⟩;obtain ⟨m1,m2,m3,m4,m5⟩:=HS.out w2 (zu (qw (zA _ _) 1) hW2 (zi _));try simp only [zo,Act.put,zx,zw,zv,zm,zl,zk]
    go_simp
   ·refine YieldG.intro rfl [(5,some 16),(6,some 17)] (by kernel_rfl) (fun _=>.pointer (some ⟨bH,oH+v*2,none⟩)) rfl ?_;intro vs W hW0 hd;have d5:vs 5 = .slice (some ⟨bH,oH,none⟩) (n+1) g.eh:=hd 5 (by decide);have d6:vs 6 = .int .i64 (v:Int):=hd 6 (by decide);clear hd;refine ⟨rfl,fun w2 hW2=>?_⟩;obtain ⟨m1,m2,m3,m4,m5⟩:=HS.out w2 (zu (qw (zA _ _) 1) hW2 (zi _));try simp only [d5,d6,zo,Act.put,zx,zw,zv,zm,zl,zk]
    go_simp
   ·refine YieldG.intro rfl [(7,some 18)] (by kernel_rfl) (fun _=>.agg #[.string (zb hn'),.string (zb hd')]) rfl ?_;intro vs W hW0 hd;have d7:vs 7 = .pointer (some ⟨bH,oH+v*2,none⟩):=hd 7 (by decide);clear hd;refine ⟨rfl,fun w2 hW2=>?_⟩;obtain ⟨m1,m2,m3,m4,m5⟩:=HS.out w2 (zu (qw (zA _ _) 1) hW2 (zi _));try simp only [d7,zo,Act.put,zx,zw,zv,zm,zl,zk]
    go_simp
  refine FinOkG.intro [(0,some 11),(9,some 7),(10,some 8),(1,some 12),(2,some 13),(3,some 14),(4,some 15),(5,some 16),(6,some 17),(7,some 18),(8,some 19)] #[true,true,true,true,true,true,true,true,true,true,true,false,false] 2 (by kernel_rfl) (by kernel_rfl) (by kernel_rfl) ?_;intro vs Wf hW0 hd hbk hdis kf;have hW:=zqw hW0;have d0:vs 0=zD 1:=hd 0 (by decide);obtain ⟨X7,d9,b7,r7⟩:∃ X,vs 9 = .pointer (some ⟨X,0,none⟩)∧wc.heap.size≤X∧World.rowIs Wf X 54 1 (zE #[.string ⟨#[]⟩]):=hd 9 (by decide);obtain ⟨X8,d10,b8,r8⟩:∃ X,vs 10 = .pointer (some ⟨X,0,none⟩)∧wc.heap.size≤X∧World.rowIs Wf X 60 2 (zE #[.string ⟨#[]⟩,.string ⟨#[]⟩]):=hd 10 (by decide);have d1:vs 1 = .pointer (some ⟨g.b,0,none⟩):=hd 1 (by decide);have d2:vs 2 = .pointer (some ⟨g.b,0,none⟩):=hd 2 (by decide);have d3:vs 3 = .pointer (some ⟨g.b,18,none⟩):=hd 3 (by decide);have d4:vs 4 = .pointer (some ⟨g.b,19,none⟩):=hd 4 (by decide);have d5:vs 5 = .slice (some ⟨bH,oH,none⟩) (n+1) g.eh:=hd 5 (by decide);have d6:vs 6 = .int .i64 (v:Int):=hd 6 (by decide);have d7:vs 7 = .pointer (some ⟨bH,oH+v*2,none⟩):=hd 7 (by decide);have d8:vs 8 = .agg #[.string (zb hn'),.string (zb hd')]:=hd 8 (by decide);have n7_8:X7≠X8:=fun h=>hdis 9 (by decide) 10 (by decide) (by decide) rfl rfl X7 (by rw [d9];rfl) (by rw [d10,h];rfl);have n8_7:=Ne.symm n7_8;clear hd hbk hdis;try simp only [d0,d9,d10,d1,d2,d3,d4,d5,d6,d7,d8,zo,Act.put,zx,zw,zv,zm,zl,zk]
  clear d0 d9 d10 d1 d2 d3 d4 d5 d6 d7 d8 vs;clear HS;have l7:=r7.lt;have y7_0:=r7.frozen 0;have k7_0:=r7.cell (i:=0) (by decide);have l8:=r8.lt;have y8_0:=r8.frozen 0;have k8_0:=r8.cell (i:=0) (by decide);have y8_1:=r8.frozen 1;have k8_1:=r8.cell (i:=1) (by decide);refine zc2 _ 11 (by kernel_rfl) rfl (fun K hK=>?_);go_simp;refine hK.out _ _ ?_ ?_
  ·repeat (first | exact hW0 | (refine Below.setCell ?_ ?_ _;rotate_left;(first | exact b7 | exact b8 | assumption)))
  clear hK K;try simp only [zo,Act.put,zx,zw,zv,zm,zl,zk]
  refine zc2 _ 12 (by kernel_rfl) rfl (fun K hK=>?_);go_simp;refine hK.out _ _ ?_ ?_
  ·repeat (first | exact hW0 | (refine Below.setCell ?_ ?_ _;rotate_left;(first | exact b7 | exact b8 | assumption)))
  clear hK K;try simp only [zo,Act.put,zx,zw,zv,zm,zl,zk]
  refine zgl (by kernel_rfl) ?_ _;clear hW0;all_goals
   try go_wp2
   go_meet;refine ⟨X7,X8,rfl,rfl,?_⟩;have hb2:=zu a3 hW a3.size;exact SetAt.made (HQ0.out.below hW) HSS.out (zh a1 hW) (zh a2 hW) r7 r8 hb2 n7_8 (Nat.le_trans a3.size b7) (Nat.le_trans a3.size b8) (Nat.ne_of_gt (Nat.lt_of_lt_of_le hsbl b7)) (Nat.ne_of_gt (Nat.lt_of_lt_of_le hvbl b7)) (Nat.ne_of_gt (Nat.lt_of_lt_of_le hsbl b8)) (Nat.ne_of_gt (Nat.lt_of_lt_of_le hvbl b8)) (zi _) (Nat.le_succ _) 1 (hn',hd')
 case rest =>
 obtain ⟨cb,xb,rfl,rfl,q⟩:=hcut;clear s1 s2 s3 s4 s5 hbH hsbl hvbl hbw a1 a2 a3

 go_upto_if 21 with (fail)
 go_cut [] from 22 to 29 (fun wx=>SetAt w D E g N n lo hi tv T k C1 C2 C3 P1 P2 P3 w.heap.size (w.heap.size+1) cb xb v 1 y wx)
 case first =>
  obtain ⟨bA,oA,eA,hbA,hcA⟩:=q.ss.ro.now.2.2.1 (by omega);have s2:wc.cell? ⟨g.b,18,none⟩=some (.slice g.Wl (n+1) g.el):=q.ss.cell 18 (by decide) _ rfl;rw [eA] at s2;have s1:wc.cell? ⟨w.heap.size,0,none⟩=some (.pointer (some ⟨g.b,0,none⟩)):=q.s.cell (i:=0) (by decide);have s3:wc.cell? ⟨w.heap.size+1,0,none⟩=some (.int .i64 (v:Int)):=q.v.cell (i:=0) (by decide);have s4:wc.cell? ⟨bA,oA+v*2,none⟩=some (.string (zb (lo.getD v (0,0)).1)):=(hcA (v*2) (by omega)).trans (by rw [jB]);have s5:wc.cell? ⟨bA,oA+v*2+1,none⟩=some (.string (zb (lo.getD v (0,0)).2)):=(hcA (v*2+1) (by omega)).trans (by rw [jC]);have hsbl:=q.s.lt;have hvbl:=q.v.lt;have hbw:=q.ss.lt;rw [← HY.out] at s4 s5;obtain ⟨an,ad⟩:=y;have j2:(v:Int)<(n:Int)+1:=by omega
  clear eA hcA;go_wp2_with fail
  have HS:Hid (∀ W,Below wc.heap.size wc W→W.cell? ⟨w.heap.size,0,none⟩=some (.pointer (some ⟨g.b,0,none⟩))∧W.cell? ⟨g.b,18,none⟩=some (.slice (some ⟨bA,oA,none⟩) (n+1) g.el)∧W.cell? ⟨w.heap.size+1,0,none⟩=some (.int .i64 (v:Int))∧W.cell? ⟨bA,oA+v*2,none⟩=some (.string (zb an))∧W.cell? ⟨bA,oA+v*2+1,none⟩=some (.string (zb ad))):=za fun W hb=>⟨zy hb s1 hsbl,zy hb s2 hbw,zy hb s3 hvbl,zy hb s4 hbA,zy hb s5 hbA⟩;refine yc (n:=_) (PX:=[zc (.pointer (some ⟨g.b,0,none⟩)),
     zc (.pointer (some ⟨g.b,0,none⟩)),
     zc (.pointer (some ⟨g.b,18,none⟩)),
     zc (.pointer (some ⟨g.b,18,none⟩)),
     zc (.slice (some ⟨bA,oA,none⟩) (n+1) g.el),
     zc (.int .i64 (v:Int)),
     zc (.pointer (some ⟨bA,oA+v*2,none⟩)),
     zc (.agg #[.string (zb an),.string (zb ad)])])
    (AL:=[]) (DP:=[[],[0],[1],[2],[3],[],[4,5],[6]]) (L1:=[0,1,2,3,4,5,6,7]) (ex:=[]) (by kernel_rfl) rfl (by kernel_rfl) ?_ ?_ (yf ?_)
  ·repeat' first|exact zO|refine ze ?_ ?_|exact fun _ _ _ _ h _=>h
  ·refine ze (zg rfl [] ?_) (ze (zg rfl [(0,some 22)] ?_) (ze (zg rfl [(1,some 23)] ?_) (ze (zg rfl [(2,some 24)] ?_) (ze (zg rfl [(3,some 25)] ?_) (ze (zg rfl [] ?_) (ze (zg rfl [(4,some 26),(5,some 27)] ?_) (ze (zg rfl [(6,some 28)] ?_) zO)))))));all_goals (intro vs W hW hd K hK;(try simp only [zR,zc,and_true,List.getD_cons_succ,List.getD_cons_zero] at hd);(first | simp only [hd,zo,Act.put,zx,zw,zv,zm,zl,zk] at hK ⊢ | simp only [zo,Act.put,zx,zw,zv,zm,zl,zk] at hK ⊢ | skip);obtain ⟨m1,m2,m3,m4,m5⟩:=HS.out W hW;go_simp;exact hK.out _ _ rfl (zA _ _) (qS rfl))
  refine qT [(0,some 22),(1,some 23),(2,some 24),(3,some 25),(4,some 26),(5,some 27),(6,some 28),(7,some 29)] #[true,true,true,true,true,true,true,true,false] 1 ?_;intro vs Wf hW hd hbk hdis kf;simp only [zR,zc,and_true,List.getD_cons_succ,List.getD_cons_zero] at hd;obtain ⟨d0,d1,d2,d3,d4,d5,d6,d7⟩:=hd;clear hbk hdis;try simp only [d0,d1,d2,d3,d4,d5,d6,d7,zo,Act.put,zx,zw,zv,zm,zl,zk]
  clear d0 d1 d2 d3 d4 d5 d6 d7 vs;clear HS;have qf:=q.below hW;have c0:=qf.x.cell (i:=0) (by decide);have c1:=qf.x.cell (i:=1) (by decide);have z0:=qf.x.frozen 0;have z1:=qf.x.frozen 1;refine qt 8 (by kernel_rfl) rfl (fun K hK=>?_);go_simp;refine hK.out _ _ ?_;clear hK K;try simp only [zo,Act.put,zx,zw,zv,zm,zl,zk]
  refine qV (by kernel_rfl) ?_ _;all_goals
   try go_wp2
   go_meet;exact qf.putX an ad
 case rest =>
 clear q;have q:=hcut;clear hcut;go_upto_if 30 with (fail)
 go_cut [] from 31 to 32 (fun wx=>SetAt w D E g N n lo hi tv T k C1 C2 C3 P1 P2 P3 w.heap.size (w.heap.size+1) cb xb v c x wx)
 case first =>
  have c0:=q.c.cell (i:=0) (by decide);have z0:=q.c.frozen 0;have c1:=q.x.cell (i:=0) (by decide);have z1:=q.x.frozen 0;have c2:=q.x.cell (i:=1) (by decide);have z2:=q.x.frozen 1;have hcx:cb≠xb:=q.cx;have hxc:xb≠cb:=Ne.symm hcx;cases zero
  ·go_wp2_with fail
   go_meet;have e1:c=1:=by simpa using HCC.out
   have e2:x=lo.getD v (0,0):=by simpa using HXX.out
   rw [e1,e2,← HY.out];exact q
  ·go_wp2_with fail
   go_meet;have e1:c=0:=by simpa using HCC.out
   have e2:x=(0,0):=by simpa using HXX.out
   rw [e1,e2];exact q.zero
 case rest =>
 clear q;have q:=hcut;clear hcut;go_upto_if 34 with (fail)
 go_cut [] from 35 to 66 (fun wx=>SsAt wx D E g N n lo hi tv T k (C1.set v c) C2 C3 (P1.set v x) P2 P3∧wx.rowIs w.heap.size 33 1 (zE #[.pointer (some ⟨g.b,0,none⟩)])∧wx.rowIs (w.heap.size+1) 3 1 (zE #[.int .i64 (v:Int)])∧Keep (g.b::g.rows) w wx)
 case first =>
  have s1:wc.cell? ⟨w.heap.size,0,none⟩=some (.pointer (some ⟨g.b,0,none⟩)):=q.s.cell (i:=0) (by decide);have s2:wc.cell? ⟨w.heap.size+1,0,none⟩=some (.int .i64 (v:Int)):=q.v.cell (i:=0) (by decide);have s3:wc.cell? ⟨cb,0,none⟩=some (.string (zb c)):=q.c.cell (i:=0) (by decide);have s4:wc.cell? ⟨xb,0,none⟩=some (.string (zb x.1)):=q.x.cell (i:=0) (by decide);have s5:wc.cell? ⟨xb,1,none⟩=some (.string (zb x.2)):=q.x.cell (i:=1) (by decide);have s6:wc.cell? ⟨g.b,8,none⟩=some (.slice (some ⟨g.bl,0,none⟩) (n+1) g.cl):=q.ss.cell 8 (by decide) _ rfl;have s7:wc.cell? ⟨g.b,15,none⟩=some (.slice (some ⟨g.pl,0,none⟩) (n+1) g.dl):=q.ss.cell 15 (by decide) _ rfl;obtain ⟨c0,z0⟩:=q.ss.c1.cells q.ss.ok.hcl v (by omega);obtain ⟨c1,c2,z1,z2⟩:=q.ss.p1.cells (Nat.mul_le_mul_right 2 q.ss.ok.hdl) v (by omega);have n1:w.heap.size≠g.bl:=q.sne (by simp [Sg.rows]);have n2:w.heap.size+1≠g.bl:=q.vne (by simp [Sg.rows]);have n3:cb≠g.bl:=q.cne (by simp [Sg.rows]);have n4:xb≠g.bl:=q.xne (by simp [Sg.rows]);have n5:g.b≠g.bl:=q.ss.ok.bne (by simp [Sg.rows]);have n6:g.pl≠g.bl:=fun e=>by have:=q.ss.ok.nd;simp [Sg.rows] at this;simp [e] at this
  have HQ:=za q;have m1:g.bl∈g.b::g.rows:=by simp [Sg.rows]
  have m2:g.pl∈g.b::g.rows:=by simp [Sg.rows]
  have q1:=(q.ss.setC1 v c (by rw [q.ss.l1];omega)).setP1 v x (by rw [q.ss.q1];omega);have b1:=((q.s.setOther (a:=⟨g.bl,v,none⟩) (q.sne m1) (.string (zb c))).setOther (a:=⟨g.pl,v*2,none⟩) (q.sne m2) (.string (zb x.1))).setOther (a:=⟨g.pl,v*2+1,none⟩) (q.sne m2) (.string (zb x.2));have b2:=((q.v.setOther (a:=⟨g.bl,v,none⟩) (q.vne m1) (.string (zb c))).setOther (a:=⟨g.pl,v*2,none⟩) (q.vne m2) (.string (zb x.1))).setOther (a:=⟨g.pl,v*2+1,none⟩) (q.vne m2) (.string (zb x.2));have b3:=(((Keep.of q.bl (g.b::g.rows)).set (p:=⟨g.bl,v,none⟩) (Or.inl m1) (.string (zb c))).set (p:=⟨g.pl,v*2,none⟩) (Or.inl m2) (.string (zb x.1))).set (p:=⟨g.pl,v*2+1,none⟩) (Or.inl m2) (.string (zb x.2));have hbw:=q.ss.lt;clear q;go_wp2_with fail
  go_region
  all_goals
   try go_wp2
   go_meet;first | exact ⟨q1,b1,b2,b3⟩ | exact ⟨q1.drew,b1.drew,b2.drew,b3.drew⟩
 case rest =>
 obtain ⟨q1,a1,a2,kp⟩:=hcut;have s1:wc.cell? ⟨w.heap.size,0,none⟩=some (.pointer (some ⟨g.b,0,none⟩)):=a1.cell (i:=0) (by decide);have s2:wc.cell? ⟨w.heap.size+1,0,none⟩=some (.int .i64 (v:Int)):=a2.cell (i:=0) (by decide);have hTW:Tab wc:=fun j hj=>(zej (kp.block _ HTT.out.lt (fun (hm:1∈g.b::g.rows)=>by
  have h1:=HSS.out.ok.bD;have h2:=HSS.out.ok.bE;rcases List.mem_cons.1 hm with e | hm
  ·omega
  ·have:=HSS.out.ok.rE _ hm;omega))).trans (HTT.out j hj)
 have hn1:w.heap.size ∉ [g.b,g.bL,g.pL]:=fun hm=>by
  have:=HSS.out.old w.heap.size (by simp [Sg.rows] at hm ⊢;rcases hm with h | h | h <;> simp [← h]);omega
 have hn2:w.heap.size+1 ∉ [g.b,g.bL,g.pL]:=fun hm=>by
  have:=HSS.out.old (w.heap.size+1) (by simp [Sg.rows] at hm ⊢;rcases hm with h | h | h <;> simp [← h]);omega
 have hcl:=HEA.out wc w.heap.size (w.heap.size+1) k q1 hTW s1 s2 hn1 hn2;have HCL:=za hcl;have HKP:=za kp;clear hcl hTW q1 a1 a2 kp q hn1 hn2;go_wp2_with (go_at_call 52;refine HCL.out.mono ?_;rintro e w9 ⟨rfl,q9,k9⟩)
 all_goals
  refine bodyPost_end (results_none rfl _ _ _) rfl ?_;exact ⟨rfl,q9,HKP.out.trans (k9.more (fun y hy=>by simp [Sg.rows] at hy ⊢;rcases hy with h | h | h <;> simp [h]))⟩
theorem zjO (w:World) (v c:Nat) (x:Pr) (zero:Bool) (h:SsAt w D E g N n lo hi tv T k C1 C2 C3 P1 P2 P3) (hT:Tab w) (hTb:1<D) (hv:zC N=true) (hd:qv N=true) (hs:qQ N=true) (hn:N.n=(n:Int))
  (hv1:1≤v) (hv2:v≤n) (hc:c=if zero=true then 0 else 1) (hx:x=if zero=true then (0,0) else hi.getD v (0,0))
  (h1:∀ k,C1.getD k 0≤1) (h2:∀ k,(C2.set v c).getD k 0≤1) (hW:WtOk n P1 (P2.set v x)) (hp1:∀ k,Sp (P1.getD k (0,0))) (hp2:∀ k,Sp ((P2.set v x).getD k (0,0)))
  (CA:List Nat) (PA:List Pr) (hCA:CA=(RL n C1 (C2.set v c)).all (own N.l) N.l) (hPA:PA=(RP n P1 (P2.set v x)).all (own N.l) N.l) (hs3:∀ j,n8 (C3.getD j 0)≤100000) (hsp:∀ j,Sp (P3.getD j (0,0)))
  (hC:∀ j,j<N.l.length→((own N.l).getD j 0).testBit (v-1)=false→C3.getD j 0=CA.getD j 0) (hP:∀ j,j<N.l.length→((own N.l).getD j 0).testBit (v-1)=false→P3.getD j (0,0)=PA.getD j (0,0)) :
  Calls Tryz.prog 59 #[.pointer (some ⟨g.b,0,none⟩),.int .i64 (v:Int),.bool zero] w fun e w'=>e = .returned (.tuple #[])∧SsAt w' D E g N n lo hi tv T (qY N v:Nat) C1 (C2.set v c) CA P1 (P2.set v x) PA∧Keep (g.b::g.rows) w w':=by
 have hn128:=yF hv hn;have hlv:=ze2 hv1 (Nat.le_trans hv2 hn128);obtain ⟨hl1,hl2⟩:=lit_r64p (Nat.le_trans hv2 hn128);have hva:∀ W,Calls Tryz.prog 91 #[.int .i64 (v:Int)] W fun e w'=>e = .returned (.int .i64 (v:Int))∧W=w':=fun W=>by
  have:=zdz W _ hl1 hl2;rw [hlv] at this;exact this
 have HVA:=za hva;have hea:=fun W sb vb k' (hq:SsAt W D E g N n lo hi tv T k' C1 (C2.set v c) C3 P1 (P2.set v x) P3) (hTW:Tab W) hsb hvb hS1 hS2=>zfQ W sb vb v hv1 hv2 hsb hvb hS1 hS2 hq hTW hTb hv hd hs hn h1 h2 hW hp1 hp2 _ rfl CA PA hCA hPA hs3 hsp hC hP;have HEA:=za hea;have HCC:=za hc;have HXX:=za hx;have HTT:=za hT;obtain ⟨y,hy⟩:∃ y,y=hi.getD v (0,0):=⟨_,rfl⟩;have HY:=za hy;have a1:=(zU w #[.pointer (some ⟨g.b,0,none⟩)] 33 w.heap.size 1 rfl rfl).alloc (.cells #[.int .i64 (v:Int)] 3);have a2:=zU (w.alloc (.cells #[.pointer (some ⟨g.b,0,none⟩)] 33)) #[.int .i64 (v:Int)] 3 (w.heap.size+1) 1 (by simp) rfl;have a3:=((Below.refl w.heap.size w).alloc (zi _) (.cells #[.pointer (some ⟨g.b,0,none⟩)] 33)).alloc (by simp) (.cells #[.int .i64 (v:Int)] 3);have HSS:=za h;clear hva hlv hea hc hx hT hy h1 h2 hW hp1 hp2 hCA hPA hs3 hsp hC hP h

 go_enter Tryz.func59, Tryz.ntmps59;go_upto_region 1 with (fail)
 go_cut [6] from 9 to 10 (fun p wx=>p = .pointer (some ⟨w.heap.size+1,0,none⟩)∧wx.rowIs w.heap.size 33 1 (zE #[.pointer (some ⟨g.b,0,none⟩)])∧wx.rowIs (w.heap.size+1) 3 1 (zE #[.int .i64 (v:Int)])∧Below w.heap.size w wx)
 case first =>
  go_wp2_with (go_at_call 91;refine (HVA.out _).mono ?_;rintro e w6 ⟨rfl,rfl⟩)
  all_goals
   go_meet;exact ⟨by simp,a1,a2,a3⟩
 case rest =>
 obtain ⟨rfl,a1,a2,a3⟩:=hcut;have q0:=HSS.out.below a3;obtain ⟨bH,oH,eH,hbH,hcH⟩:=q0.ro.now.2.2.2 (by omega);have s2:wc.cell? ⟨g.b,19,none⟩=some (.slice g.Wh (n+1) g.eh):=q0.cell 19 (by decide) _ rfl;rw [eH] at s2;have s1:wc.cell? ⟨w.heap.size,0,none⟩=some (.pointer (some ⟨g.b,0,none⟩)):=a1.cell (i:=0) (by decide);have s3:wc.cell? ⟨w.heap.size+1,0,none⟩=some (.int .i64 (v:Int)):=a2.cell (i:=0) (by decide);have s4:wc.cell? ⟨bH,oH+v*2,none⟩=some (.string (zb (hi.getD v (0,0)).1)):=(hcH (v*2) (by omega)).trans (by rw [jB]);have s5:wc.cell? ⟨bH,oH+v*2+1,none⟩=some (.string (zb (hi.getD v (0,0)).2)):=(hcH (v*2+1) (by omega)).trans (by rw [jC]);have hsbl:=a1.lt;have hvbl:=a2.lt;have hbw:=q0.lt;obtain ⟨z,hz⟩:∃ z,hi.getD v (0,0)=z:=⟨_,rfl⟩;rw [hz] at s4 s5;have HZ:=za hz;obtain ⟨hn',hd'⟩:=z;have j1:(0:Int)≤(v:Int):=by omega
 have j2:(v:Int)<(n:Int)+1:=by omega
 have HQ0:=za q0;clear eH hcH hz q0;go_upto_region 2 with (fail)
 go_cut [7,8] from 11 to 19 (fun p r wx=>∃ cb xb,p = .pointer (some ⟨cb,0,none⟩)∧r = .pointer (some ⟨xb,0,none⟩)∧SetAt w D E g N n lo hi tv T k C1 C2 C3 P1 P2 P3 w.heap.size (w.heap.size+1) cb xb v 1 (hn',hd') wx)
 case first =>
  have HS:Hid (∀ W,Below wc.heap.size wc W→W.cell? ⟨w.heap.size,0,none⟩=some (.pointer (some ⟨g.b,0,none⟩))∧W.cell? ⟨g.b,19,none⟩=some (.slice (some ⟨bH,oH,none⟩) (n+1) g.eh)∧W.cell? ⟨w.heap.size+1,0,none⟩=some (.int .i64 (v:Int))∧W.cell? ⟨bH,oH+v*2,none⟩=some (.string (zb hn'))∧W.cell? ⟨bH,oH+v*2+1,none⟩=some (.string (zb hd'))):=za fun W hb=>⟨zy hb s1 hsbl,zy hb s2 hbw,zy hb s3 hvbl,zy hb s4 hbH,zy hb s5 hbH⟩;refine zbF (n:=_) (PX:=[zc (zD 1),
     zc (.pointer (some ⟨g.b,0,none⟩)),
     zc (.pointer (some ⟨g.b,0,none⟩)),
     zc (.pointer (some ⟨g.b,18,none⟩)),
     zc (.pointer (some ⟨g.b,19,none⟩)),
     zc (.slice (some ⟨bH,oH,none⟩) (n+1) g.eh),
     zc (.int .i64 (v:Int)),
     zc (.pointer (some ⟨bH,oH+v*2,none⟩)),
     zc (.agg #[.string (zb hn'),.string (zb hd')]),
     fun xl xv xw=>∃ X,xv = .pointer (some ⟨X,0,none⟩)∧wc.heap.size≤X∧World.rowIs xw X 54 1 (zE #[.string ⟨#[]⟩]),
     fun xl xv xw=>∃ X,xv = .pointer (some ⟨X,0,none⟩)∧wc.heap.size≤X∧World.rowIs xw X 60 2 (zE #[.string ⟨#[]⟩,.string ⟨#[]⟩])])
    (AL:=[9,10]) (DP:=[[],[],[1],[2],[3],[4],[],[5,6],[7],[],[]]) (L1:=[0,9,10]) (ex:=[1,2,3,4,5,6,7,8]) (by kernel_rfl) rfl (by kernel_rfl) (by kernel_rfl) (fun _ _ _ _ _ h=>h) ?_ ?_ ?_ ?_
  ·repeat' first|exact zO|refine ze ?_ ?_|exact fun _ _ _ _ h _=>h|fail
   ·exact fun l v w w2 h hb=>by obtain ⟨X,h1,h2,h3⟩:=h;exact ⟨X,h1,h2,zh h3 hb⟩
   ·exact fun l v w w2 h hb=>by obtain ⟨X,h1,h2,h3⟩:=h;exact ⟨X,h1,h2,zh h3 hb⟩
  ·refine ze ?_ (ze ?_ (ze ?_ zO))
   ·refine qo rfl [] ?_;intro vs W hW hd K hK;clear hd;try simp only [zo,Act.put,zx,zw,zv,zm,zl,zk] at hK ⊢
    go_simp;go_at_call 47;(with_reducible first | refine (zfG _).mono ?_);rintro e w9 ⟨rfl,hb9⟩;exact hK.out _ _ (rfl) hb9 (fun h=>absurd h (by decide))
   ·refine qo rfl [] ?_;intro vs W hW hd K hK;clear hd;try simp only [zo,Act.put,zx,zw,zv,zm,zl,zk] at hK ⊢
    go_simp;exact hK.out _ _ ⟨W.heap.size,rfl,hW.size,zU _ _ _ _ _ rfl rfl⟩ ((zA _ _).alloc (zi _) _) (fun _ b hb=>by simp [zV] at hb;subst hb;exact ⟨zi _,by simp⟩)
   ·refine qo rfl [] ?_;intro vs W hW hd K hK;clear hd;try simp only [zo,Act.put,zx,zw,zv,zm,zl,zk] at hK ⊢
    go_simp;exact hK.out _ _ ⟨W.heap.size,rfl,hW.size,zU _ _ _ _ _ rfl rfl⟩ ((zA _ _).alloc (zi _) _) (fun _ b hb=>by simp [zV] at hb;subst hb;exact ⟨zi _,by simp⟩)
  ·refine ze ?_ (ze ?_ (ze ?_ (ze ?_ (ze ?_ (ze ?_ (ze ?_ (ze ?_ zO)))))))
   ·refine YieldG.intro rfl [] (by kernel_rfl) (fun _=>.pointer (some ⟨g.b,0,none⟩)) rfl ?_;intro vs W hW0 hd;clear hd;refine ⟨rfl,fun w2 hW2=>?_⟩;obtain ⟨m1,m2,m3,m4,m5⟩:=HS.out w2 (zu (qw (zA _ _) 1) hW2 (zi _));try simp only [zo,Act.put,zx,zw,zv,zm,zl,zk]
    go_simp
   ·refine YieldG.intro rfl [(1,some 12)] (by kernel_rfl) (fun _=>.pointer (some ⟨g.b,0,none⟩)) rfl ?_;intro vs W hW0 hd;have d1:vs 1 = .pointer (some ⟨g.b,0,none⟩):=hd 1 (by decide);clear hd;refine ⟨rfl,fun w2 hW2=>?_⟩;try simp only [d1,zo,Act.put,zx,zw,zv,zm,zl,zk]
    go_simp
   ·refine YieldG.intro rfl [(2,some 13)] (by kernel_rfl) (fun _=>.pointer (some ⟨g.b,18,none⟩)) rfl ?_;intro vs W hW0 hd;have d2:vs 2 = .pointer (some ⟨g.b,0,none⟩):=hd 2 (by decide);clear hd;refine ⟨rfl,fun w2 hW2=>?_⟩;obtain ⟨m1,m2,m3,m4,m5⟩:=HS.out w2 (zu (qw (zA _ _) 1) hW2 (zi _));try simp only [d2,zo,Act.put,zx,zw,zv,zm,zl,zk]
    go_simp
   ·refine YieldG.intro rfl [(3,some 14)] (by kernel_rfl) (fun _=>.pointer (some ⟨g.b,19,none⟩)) rfl ?_;intro vs W hW0 hd;have d3:vs 3 = .pointer (some ⟨g.b,18,none⟩):=hd 3 (by decide);clear hd;refine ⟨rfl,fun w2 hW2=>?_⟩;obtain ⟨m1,m2,m3,m4,m5⟩:=HS.out w2 (zu (qw (zA _ _) 1) hW2 (zi _));try simp only [d3,zo,Act.put,zx,zw,zv,zm,zl,zk]
    go_simp
   ·refine YieldG.intro rfl [(4,some 15)] (by kernel_rfl) (fun _=>.slice (some ⟨bH,oH,none⟩) (n+1) g.eh) rfl ?_;intro vs W hW0 hd;have d4:vs 4 = .pointer (some ⟨g.b,19,none⟩):=hd 4 (by decide);clear hd;refine ⟨rfl,fun w2 hW2=>?_⟩;obtain ⟨m1,m2,m3,m4,m5⟩:=HS.out w2 (zu (qw (zA _ _) 1) hW2 (zi _));try simp only [d4,zo,Act.put,zx,zw,zv,zm,zl,zk]
    go_simp
   ·refine YieldG.intro rfl [] (by kernel_rfl) (fun _=>.int .i64 (v:Int)) rfl ?_;intro vs W hW0 hd;clear hd;refine ⟨rfl,fun w2 hW2=>?_⟩;obtain ⟨m1,m2,m3,m4,m5⟩:=HS.out w2 (zu (qw (zA _ _) 1) hW2 (zi _));try simp only [zo,Act.put,zx,zw,zv,zm,zl,zk]
    go_simp
   ·refine YieldG.intro rfl [(5,some 16),(6,some 17)] (by kernel_rfl) (fun _=>.pointer (some ⟨bH,oH+v*2,none⟩)) rfl ?_;intro vs W hW0 hd;have d5:vs 5 = .slice (some ⟨bH,oH,none⟩) (n+1) g.eh:=hd 5 (by decide);have d6:vs 6 = .int .i64 (v:Int):=hd 6 (by decide);clear hd;refine ⟨rfl,fun w2 hW2=>?_⟩;obtain ⟨m1,m2,m3,m4,m5⟩:=HS.out w2 (zu (qw (zA _ _) 1) hW2 (zi _));try simp only [d5,d6,zo,Act.put,zx,zw,zv,zm,zl,zk]
    go_simp
   ·refine YieldG.intro rfl [(7,some 18)] (by kernel_rfl) (fun _=>.agg #[.string (zb hn'),.string (zb hd')]) rfl ?_;intro vs W hW0 hd;have d7:vs 7 = .pointer (some ⟨bH,oH+v*2,none⟩):=hd 7 (by decide);clear hd;refine ⟨rfl,fun w2 hW2=>?_⟩;obtain ⟨m1,m2,m3,m4,m5⟩:=HS.out w2 (zu (qw (zA _ _) 1) hW2 (zi _));try simp only [d7,zo,Act.put,zx,zw,zv,zm,zl,zk]
    go_simp
  refine FinOkG.intro [(0,some 11),(9,some 7),(10,some 8),(1,some 12),(2,some 13),(3,some 14),(4,some 15),(5,some 16),(6,some 17),(7,some 18),(8,some 19)] #[true,true,true,true,true,true,true,true,true,true,true,false,false] 2 (by kernel_rfl) (by kernel_rfl) (by kernel_rfl) ?_;intro vs Wf hW0 hd hbk hdis kf;have hW:=zqw hW0;have d0:vs 0=zD 1:=hd 0 (by decide);obtain ⟨X7,d9,b7,r7⟩:∃ X,vs 9 = .pointer (some ⟨X,0,none⟩)∧wc.heap.size≤X∧World.rowIs Wf X 54 1 (zE #[.string ⟨#[]⟩]):=hd 9 (by decide);obtain ⟨X8,d10,b8,r8⟩:∃ X,vs 10 = .pointer (some ⟨X,0,none⟩)∧wc.heap.size≤X∧World.rowIs Wf X 60 2 (zE #[.string ⟨#[]⟩,.string ⟨#[]⟩]):=hd 10 (by decide);have d1:vs 1 = .pointer (some ⟨g.b,0,none⟩):=hd 1 (by decide);have d2:vs 2 = .pointer (some ⟨g.b,0,none⟩):=hd 2 (by decide);have d3:vs 3 = .pointer (some ⟨g.b,18,none⟩):=hd 3 (by decide);have d4:vs 4 = .pointer (some ⟨g.b,19,none⟩):=hd 4 (by decide);have d5:vs 5 = .slice (some ⟨bH,oH,none⟩) (n+1) g.eh:=hd 5 (by decide);have d6:vs 6 = .int .i64 (v:Int):=hd 6 (by decide);have d7:vs 7 = .pointer (some ⟨bH,oH+v*2,none⟩):=hd 7 (by decide);have d8:vs 8 = .agg #[.string (zb hn'),.string (zb hd')]:=hd 8 (by decide);have n7_8:X7≠X8:=fun h=>hdis 9 (by decide) 10 (by decide) (by decide) rfl rfl X7 (by rw [d9];rfl) (by rw [d10,h];rfl);have n8_7:=Ne.symm n7_8;clear hd hbk hdis;try simp only [d0,d9,d10,d1,d2,d3,d4,d5,d6,d7,d8,zo,Act.put,zx,zw,zv,zm,zl,zk]
  clear d0 d9 d10 d1 d2 d3 d4 d5 d6 d7 d8 vs;clear HS;have l7:=r7.lt;have y7_0:=r7.frozen 0;have k7_0:=r7.cell (i:=0) (by decide);have l8:=r8.lt;have y8_0:=r8.frozen 0;have k8_0:=r8.cell (i:=0) (by decide);have y8_1:=r8.frozen 1;have k8_1:=r8.cell (i:=1) (by decide);refine zc2 _ 11 (by kernel_rfl) rfl (fun K hK=>?_);go_simp;refine hK.out _ _ ?_ ?_
  ·repeat (first | exact hW0 | (refine Below.setCell ?_ ?_ _;rotate_left;(first | exact b7 | exact b8 | assumption)))
  clear hK K;try simp only [zo,Act.put,zx,zw,zv,zm,zl,zk]
  refine zc2 _ 12 (by kernel_rfl) rfl (fun K hK=>?_);go_simp;refine hK.out _ _ ?_ ?_
  ·repeat (first | exact hW0 | (refine Below.setCell ?_ ?_ _;rotate_left;(first | exact b7 | exact b8 | assumption)))
  clear hK K;try simp only [zo,Act.put,zx,zw,zv,zm,zl,zk]
  refine zgl (by kernel_rfl) ?_ _;clear hW0;all_goals
   try go_wp2
   go_meet;refine ⟨X7,X8,rfl,rfl,?_⟩;have hb2:=zu a3 hW a3.size;exact SetAt.made (HQ0.out.below hW) HSS.out (zh a1 hW) (zh a2 hW) r7 r8 hb2 n7_8 (Nat.le_trans a3.size b7) (Nat.le_trans a3.size b8) (Nat.ne_of_gt (Nat.lt_of_lt_of_le hsbl b7)) (Nat.ne_of_gt (Nat.lt_of_lt_of_le hvbl b7)) (Nat.ne_of_gt (Nat.lt_of_lt_of_le hsbl b8)) (Nat.ne_of_gt (Nat.lt_of_lt_of_le hvbl b8)) (zi _) (Nat.le_succ _) 1 (hn',hd')
 case rest =>
 obtain ⟨cb,xb,rfl,rfl,q⟩:=hcut;clear s1 s2 s3 s4 s5 hbH hsbl hvbl hbw a1 a2 a3;rw [← HZ.out] at q;go_upto_if 21 with (fail)
 go_cut [] from 22 to 29 (fun wx=>SetAt w D E g N n lo hi tv T k C1 C2 C3 P1 P2 P3 w.heap.size (w.heap.size+1) cb xb v 1 y wx)
 case first =>
  go_wp2_with fail
  go_meet;rw [HY.out];exact q
 case rest =>
 clear q;have q:=hcut;clear hcut;go_upto_if 30 with (fail)
 go_cut [] from 31 to 32 (fun wx=>SetAt w D E g N n lo hi tv T k C1 C2 C3 P1 P2 P3 w.heap.size (w.heap.size+1) cb xb v c x wx)
 case first =>
  have c0:=q.c.cell (i:=0) (by decide);have z0:=q.c.frozen 0;have c1:=q.x.cell (i:=0) (by decide);have z1:=q.x.frozen 0;have c2:=q.x.cell (i:=1) (by decide);have z2:=q.x.frozen 1;have hcx:cb≠xb:=q.cx;have hxc:xb≠cb:=Ne.symm hcx;cases zero
  ·go_wp2_with fail
   go_meet;have e1:c=1:=by simpa using HCC.out
   have e2:x=hi.getD v (0,0):=by simpa using HXX.out
   rw [e1,e2,← HY.out];exact q
  ·go_wp2_with fail
   go_meet;have e1:c=0:=by simpa using HCC.out
   have e2:x=(0,0):=by simpa using HXX.out
   rw [e1,e2];exact q.zero
 case rest =>
 clear q;have q:=hcut;clear hcut;go_upto_if 34 with (fail)
 go_cut [] from 35 to 66 (fun wx=>SsAt wx D E g N n lo hi tv T k C1 (C2.set v c) C3 P1 (P2.set v x) P3∧wx.rowIs w.heap.size 33 1 (zE #[.pointer (some ⟨g.b,0,none⟩)])∧wx.rowIs (w.heap.size+1) 3 1 (zE #[.int .i64 (v:Int)])∧Keep (g.b::g.rows) w wx)
 case first =>
  have s1:wc.cell? ⟨w.heap.size,0,none⟩=some (.pointer (some ⟨g.b,0,none⟩)):=q.s.cell (i:=0) (by decide);have s2:wc.cell? ⟨w.heap.size+1,0,none⟩=some (.int .i64 (v:Int)):=q.v.cell (i:=0) (by decide);have s3:wc.cell? ⟨cb,0,none⟩=some (.string (zb c)):=q.c.cell (i:=0) (by decide);have s4:wc.cell? ⟨xb,0,none⟩=some (.string (zb x.1)):=q.x.cell (i:=0) (by decide);have s5:wc.cell? ⟨xb,1,none⟩=some (.string (zb x.2)):=q.x.cell (i:=1) (by decide);have s6:wc.cell? ⟨g.b,9,none⟩=some (.slice (some ⟨g.bh,0,none⟩) (n+1) g.ch):=q.ss.cell 9 (by decide) _ rfl;have s7:wc.cell? ⟨g.b,16,none⟩=some (.slice (some ⟨g.ph,0,none⟩) (n+1) g.dh):=q.ss.cell 16 (by decide) _ rfl;obtain ⟨c0,z0⟩:=q.ss.c2.cells q.ss.ok.hch v (by omega);obtain ⟨c1,c2,z1,z2⟩:=q.ss.p2.cells (Nat.mul_le_mul_right 2 q.ss.ok.hdh) v (by omega);have n1:w.heap.size≠g.bh:=q.sne (by simp [Sg.rows]);have n2:w.heap.size+1≠g.bh:=q.vne (by simp [Sg.rows]);have n3:cb≠g.bh:=q.cne (by simp [Sg.rows]);have n4:xb≠g.bh:=q.xne (by simp [Sg.rows]);have n5:g.b≠g.bh:=q.ss.ok.bne (by simp [Sg.rows]);have n6:g.ph≠g.bh:=fun e=>by have:=q.ss.ok.nd;simp [Sg.rows] at this;simp [e] at this
  have HQ:=za q;have m1:g.bh∈g.b::g.rows:=by simp [Sg.rows]
  have m2:g.ph∈g.b::g.rows:=by simp [Sg.rows]
  have q1:=(q.ss.setC2 v c (by rw [q.ss.l2];omega)).setP2 v x (by rw [q.ss.q2];omega);have b1:=((q.s.setOther (a:=⟨g.bh,v,none⟩) (q.sne m1) (.string (zb c))).setOther (a:=⟨g.ph,v*2,none⟩) (q.sne m2) (.string (zb x.1))).setOther (a:=⟨g.ph,v*2+1,none⟩) (q.sne m2) (.string (zb x.2));have b2:=((q.v.setOther (a:=⟨g.bh,v,none⟩) (q.vne m1) (.string (zb c))).setOther (a:=⟨g.ph,v*2,none⟩) (q.vne m2) (.string (zb x.1))).setOther (a:=⟨g.ph,v*2+1,none⟩) (q.vne m2) (.string (zb x.2));have b3:=(((Keep.of q.bl (g.b::g.rows)).set (p:=⟨g.bh,v,none⟩) (Or.inl m1) (.string (zb c))).set (p:=⟨g.ph,v*2,none⟩) (Or.inl m2) (.string (zb x.1))).set (p:=⟨g.ph,v*2+1,none⟩) (Or.inl m2) (.string (zb x.2));have hbw:=q.ss.lt;clear q;go_wp2_with fail
  go_region
  all_goals
   try go_wp2
   go_meet;first | exact ⟨q1,b1,b2,b3⟩ | exact ⟨q1.drew,b1.drew,b2.drew,b3.drew⟩
 case rest =>
 obtain ⟨q1,a1,a2,kp⟩:=hcut;have s1:wc.cell? ⟨w.heap.size,0,none⟩=some (.pointer (some ⟨g.b,0,none⟩)):=a1.cell (i:=0) (by decide);have s2:wc.cell? ⟨w.heap.size+1,0,none⟩=some (.int .i64 (v:Int)):=a2.cell (i:=0) (by decide);have hTW:Tab wc:=fun j hj=>(zej (kp.block _ HTT.out.lt (fun (hm:1∈g.b::g.rows)=>by
  have h1:=HSS.out.ok.bD;have h2:=HSS.out.ok.bE;rcases List.mem_cons.1 hm with e | hm
  ·omega
  ·have:=HSS.out.ok.rE _ hm;omega))).trans (HTT.out j hj)
 have hn1:w.heap.size ∉ [g.b,g.bL,g.pL]:=fun hm=>by
  have:=HSS.out.old w.heap.size (by simp [Sg.rows] at hm ⊢;rcases hm with h | h | h <;> simp [← h]);omega
 have hn2:w.heap.size+1 ∉ [g.b,g.bL,g.pL]:=fun hm=>by
  have:=HSS.out.old (w.heap.size+1) (by simp [Sg.rows] at hm ⊢;rcases hm with h | h | h <;> simp [← h]);omega
 have hcl:=HEA.out wc w.heap.size (w.heap.size+1) k q1 hTW s1 s2 hn1 hn2;have HCL:=za hcl;have HKP:=za kp;clear hcl hTW q1 a1 a2 kp q hn1 hn2;go_wp2_with (go_at_call 52;refine HCL.out.mono ?_;rintro e w9 ⟨rfl,q9,k9⟩)
 all_goals
  refine bodyPost_end (results_none rfl _ _ _) rfl ?_;exact ⟨rfl,q9,HKP.out.trans (k9.more (fun y hy=>by simp [Sg.rows] at hy ⊢;rcases hy with h | h | h <;> simp [h]))⟩
end
end Go.Proofs.YtoljkoifgnmbgaaGreatDoor
