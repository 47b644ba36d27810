import Derived.Test.YtoljkoifgnmbgaaGreatDoorVc
import Derived.Test.YtoljkoifgnmbgaaGreatDoorHp
import Derived.WalkMore
set_option linter.unusedSimpArgs false
set_option linter.unusedVariables false
set_option maxRecDepth 100000
set_option maxHeartbeats 4000000
open Go Go.RowKit Cs
namespace Go.Proofs.YtoljkoifgnmbgaaGreatDoor
theorem rdFar {w:World} {B n:Nat} {A:Option Addr} {f:Nat→Value} (h:Rd w B A n f) {g:Nat} (hA:∀ b o,A=some ⟨b,o,none⟩→b≠g) (i:Nat) (v:Value):Rd (w.setCell ⟨g,i,none⟩ v) B A n f:=fun hn=>by
 obtain ⟨b,o,e,hb,hc⟩:=h hn;exact ⟨b,o,e,hb,fun j hj=>(World.cell?_setCell_far _ _ _ _ (Ne.symm (hA b o e))).trans (hc j hj)⟩
theorem zdU {w:World} {g:Nat} {t:TypeId} {n d:Nat} (h:w.rowIs g t 2 (zE #[.string (zb n),.string (zb d)])):w.rowIs g t 2 (zl8 n d):=h.congr fun i hi=>by
 have:i=0∨i=1:=by omega
 rcases this with rfl | rfl <;> rfl
structure WdAt (w:World) (T:TypeId) (k:Nat) (z y:Array Value) (wr:World):Prop where
 res:wr.rowIs (w.heap.size+1+1) T k (zE z)
 acc:wr.rowIs w.heap.size T k (zE y)
 bl:Below w.heap.size w wr
section
variable {w wr w':World} {T:TypeId} {k:Nat} {z y:Array Value}
theorem WdAt.below (h:WdAt w T k z y wr) (hb:Below wr.heap.size wr w'):WdAt w T k z y w':=⟨zh h.res hb,zh h.acc hb,zu h.bl hb h.bl.size⟩
theorem WdAt.put1 (h:WdAt w T 1 z y wr) (v:Value):WdAt w T 1 z #[v] (wr.setCell ⟨w.heap.size,0,none⟩ v) :=
 ⟨h.res.setOther (by simp;omega) _,((h.acc.set 0 v).congr fun i hi=>by
   have e:i=0:=by omega
   subst e;rfl),h.bl.setCell (by simp) _⟩
theorem WdAt.put2 (h:WdAt w T 2 z y wr) (u v:Value):WdAt w T 2 z #[u,v] ((wr.setCell ⟨w.heap.size,0,none⟩ u).setCell ⟨w.heap.size,1,none⟩ v) :=
 ⟨(h.res.setOther (by simp;omega) _).setOther (by simp;omega) _,yH h.acc u v,(h.bl.setCell (by simp) _).setCell (by simp) _⟩
end
theorem ziv (w:World) (b cl ch n:Nat) (lo hi:List Nat) (Al Ah:Option Addr) (y:Nat) (s:Nat) (hT:Tab w) (hbs:b<w.heap.size)
  (h6:w.cell? ⟨b,6,none⟩=some (.func (.func 36) #[] #[])) (h7:w.cell? ⟨b,7,none⟩=some (.func (.func 48) #[] #[])) (h8:w.cell? ⟨b,8,none⟩=some (.slice Al (n+1) cl)) (h9:w.cell? ⟨b,9,none⟩=some (.slice Ah (n+1) ch))
  (hlo:Rd w w.heap.size Al ((n+1)) (qI lo)) (hhi:Rd w w.heap.size Ah ((n+1)) (qI hi)) (hs:∀ u∈vl s,u.natAbs≤n)
  (hsm:∀ m,n8 ((RL n lo hi).wide y ((vl s).take m))≤100000) (hb1:∀ v,1≤v→n8 (lo.getD v 0)≤100000∧n8 (hi.getD v 0)≤100000) (hb2:∀ u,n8 ((RL n lo hi).both u)≤100000) :
  Calls Tryz.prog 110 #[.pointer (some ⟨b,5,none⟩),zD y,zY s] w fun e w'=>e = .returned (zD ((RL n lo hi).wide y (vl s)))∧Below w.heap.size w w':=by
 obtain ⟨V,hV⟩:∃ V,vl s=V:=⟨_,rfl⟩;have hVb:=zhT s;have hvl:=fun W hT=>zhQ W s hT;have hVl:=zbe s;rw [hV] at hs hsm hVb hvl hVl;rw [hV];have HVL:=za hvl;have hwn:=fun k hk=>zhO (RL n lo hi) y V k hk;have HWN:=za hwn;have HSM:=za hsm;have HB1:=za hb1;have HB2:=za hb2;have HVS:=za (show ∀ u∈V,1≤u∧u.natAbs≤n from fun u hu=>⟨(hVb u hu).1,hs u hu⟩);have hw0:(RL n lo hi).wide y (V.take 0)=y:=rfl;have HTB:=za (fun W (hb:Below w.heap.size w W)=>hT.below hb);have HCE:=za (fun W (hb:Below w.heap.size w W)=>(⟨zy hb h6 hbs,zy hb h7 hbs,zy hb h8 hbs,zy hb h9 hbs⟩ :
  W.cell? ⟨b,6,none⟩=some (.func (.func 36) #[] #[])∧W.cell? ⟨b,7,none⟩=some (.func (.func 48) #[] #[])∧W.cell? ⟨b,8,none⟩=some (.slice Al (n+1) cl)∧W.cell? ⟨b,9,none⟩=some (.slice Ah (n+1) ch)))
 obtain ⟨bl,ol,rfl,hbl,hcl⟩:=hlo (by omega);obtain ⟨bh,oh,rfl,hbh,hch⟩:=hhi (by omega);have HCL:=za hcl;have HCH:=za hch;clear hvl hwn hsm hb1 hb2 hVb hs h6 h7 h8 h9 hlo hhi hcl hch hT hV;have q0:WdAt w 54 1 #[.string ⟨#[]⟩] #[.string (zb y)] (((w.alloc (.cells #[.string (zb y)] 54)).alloc (.cells #[.int .u64 (Cs.lo s:Int),.int .u64 (Cs.hi s:Int)] 138)).alloc (.cells #[.string ⟨#[]⟩] 54)) :=
  ⟨zU _ _ _ _ _ (by simp) rfl,((zU w _ _ _ _ rfl rfl).alloc _).alloc _,(((zA _ _).alloc (zi _) _).alloc (by simp) _).alloc (by simp;omega) _⟩
 go_enter Tryz.func110, Tryz.ntmps110;go_wp2_with fail
 refine (HVL.out _ (HTB.out _ q0.bl)).mono ?_;rintro e w1 ⟨As,cs,rfl,hrs,hAs,hb1⟩;have hAs2:∀ b o,As=some ⟨b,o,none⟩→b≠w.heap.size:=fun b o h=>by
  have:=hAs b o h;have:=q0.res.lt;omega
 have q1:=q0.below hb1;clear hb1 hAs q0;go_wp2_with fail
 go_loopw [12] (fun t wr=>∃ k:Nat,k≤V.length∧t = .int .i64 (k:Int)∧Rd wr wr.heap.size As V.length (zJ V)∧WdAt w 54 1 #[.string ⟨#[]⟩] #[.string (zb ((RL n lo hi).wide y (V.take k)))] wr) (fun t _=>V.length-(intOf t).toNat)
 case atStart=>exact ⟨0,Nat.zero_le _,rfl,hrs,by rw [hw0];exact q1⟩
 case round =>
  clear hrs q1;obtain ⟨k,hk,rfl,hrs,q⟩:=hrel;by_cases hlt:k<V.length
  ·obtain ⟨bA,oA,rfl,hbA,hcA⟩:=hrs (by omega);have cA:=hcA k hlt;clear hcA;obtain ⟨hv1,hv2⟩:=HVS.out V[k] (List.getElem_mem hlt);have hwk:=HWN.out k hlt;obtain ⟨v,hv⟩:∃ v:Nat,V[k]=(v:Int):=⟨V[k].toNat,by omega⟩;have cA2:zJ V k = .int .i64 (v:Int):=by
    unfold zJ;rw [List.getD_eq_getElem?_getD,List.getElem?_eq_getElem hlt,← hv];rfl
   rw [cA2] at cA;rw [hv] at hwk hv1 hv2;rw [Int.natAbs_natCast] at hv2;have hv1':1≤v:=by omega
   rw [xe hv1' hv2] at hwk;have hbb:=HB2.out (v:Int);rw [xe hv1' hv2] at hbb;have hsk:=HSM.out k;obtain ⟨hx8,hz8⟩:=HB1.out v hv1';obtain ⟨h6,h7,h8,h9⟩:=HCE.out _ q.bl;have l1:wr.cell? ⟨bl,ol+v,none⟩=some (.string (zb (lo.getD v 0))):=(q.bl.cell (p:=⟨bl,ol+v,none⟩) hbl).trans (HCL.out v (by omega));have l2:wr.cell? ⟨bh,oh+v,none⟩=some (.string (zb (hi.getD v 0))):=(q.bl.cell (p:=⟨bh,oh+v,none⟩) hbh).trans (HCH.out v (by omega));have l3:wr.cell? ⟨w.heap.size,0,none⟩=some (.string (zb ((RL n lo hi).wide y (V.take k)))):=q.acc.cell (i:=0) (by decide);generalize lo.getD v 0=x at *
   generalize hi.getD v 0=z at *
   obtain ⟨p,hp⟩:∃ p,(RL n lo hi).wide y (V.take k)=p:=⟨_,rfl⟩;rw [hp] at hwk hsk l3;clear hp;obtain ⟨g,hg⟩:∃ g,x+z=g:=⟨_,rfl⟩;rw [hg] at hwk hbb;obtain ⟨r,hr⟩:∃ r,p*g=r:=⟨_,rfl⟩;replace hwk:(RL n lo hi).wide y (V.take (k+1))=r:=hwk.trans hr;have hadd:∀ W,Calls Tryz.prog 36 #[zD x,zD z] W fun e w'=>e = .returned (zD g)∧Below W.heap.size W w':=fun W=>by rw [← hg];exact zhH W x z (by omega) (by omega)
   have hmul:∀ W,Calls Tryz.prog 48 #[zD p,zD g] W fun e w'=>e = .returned (zD r)∧Below W.heap.size W w':=fun W=>by rw [← hr];exact zcp W p g (by omega) (by omega)
   have HAD:=za hadd;have HMU:=za hmul;clear hadd hmul hg hr;have hbw:b<wr.heap.size:=Nat.lt_of_lt_of_le hbs q.bl.size;have hblw:bl<wr.heap.size:=Nat.lt_of_lt_of_le hbl q.bl.size;have hbhw:bh<wr.heap.size:=Nat.lt_of_lt_of_le hbh q.bl.size;have hyw:=q.acc.lt;have i1:(0:Int)≤(k:Int):=by omega
   have i2:(k:Int)<(V.length:Int):=by omega
   have i3:(v:Int)<((n+1:Nat):Int):=by omega
   have i4:(0:Int)≤(v:Int):=by omega
   have i5:(v:Int)<(n:Int)+1:=by omega
   have HRS:=za hrs;have HNX:=za hwk;clear cA2 hv hwk hbb hsk hx8 hz8 hrs;go_wp2_with fail
   have s1:=h7;have s2:=h6;have s3:=h8;have s4:=h9;have s5:=l3;have s6:=l1;have s7:=l2;clear h6 h7 h8 h9 l1 l2 l3 cA;have HS:Hid (∀ W,Below wr.heap.size wr W→W.cell? ⟨b,7,none⟩=some (.func (.func 48) #[] #[])∧W.cell? ⟨b,6,none⟩=some (.func (.func 36) #[] #[])∧W.cell? ⟨b,8,none⟩=some (.slice (some ⟨bl,ol,none⟩) (n+1) cl)∧W.cell? ⟨b,9,none⟩=some (.slice (some ⟨bh,oh,none⟩) (n+1) ch)∧W.cell? ⟨w.heap.size,0,none⟩=some (.string (zb p))∧W.cell? ⟨bl,ol+v,none⟩=some (.string (zb x))∧W.cell? ⟨bh,oh+v,none⟩=some (.string (zb z))):=za fun W hb=>⟨zy hb s1 hbw,zy hb s2 hbw,zy hb s3 hbw,zy hb s4 hbw,zy hb s5 hyw,zy hb s6 hblw,zy hb s7 hbhw⟩;refine yc (n:=_) (PX:=[zc (.pointer (some ⟨b,5,none⟩)),
      zc (.pointer (some ⟨b,5,none⟩)),
      zc (.pointer (some ⟨b,7,none⟩)),
      zc (.func (.func 48) #[] #[]),
      zc (.agg #[.string (zb p)]),
      zc (.pointer (some ⟨b,5,none⟩)),
      zc (.pointer (some ⟨b,5,none⟩)),
      zc (.pointer (some ⟨b,6,none⟩)),
      zc (.func (.func 36) #[] #[]),
      zc (.pointer (some ⟨b,5,none⟩)),
      zc (.pointer (some ⟨b,5,none⟩)),
      zc (.pointer (some ⟨b,8,none⟩)),
      zc (.slice (some ⟨bl,ol,none⟩) (n+1) cl),
      zc (.int .i64 (v:Int)),
      zc (.pointer (some ⟨bl,ol+v,none⟩)),
      zc (.agg #[.string (zb x)]),
      zc (.pointer (some ⟨b,5,none⟩)),
      zc (.pointer (some ⟨b,5,none⟩)),
      zc (.pointer (some ⟨b,9,none⟩)),
      zc (.slice (some ⟨bh,oh,none⟩) (n+1) ch),
      zc (.int .i64 (v:Int)),
      zc (.pointer (some ⟨bh,oh+v,none⟩)),
      zc (.agg #[.string (zb z)]),
      zc (.agg #[.string (zb g)]),
      zc (.agg #[.string (zb r)])])
     (AL:=[]) (DP:=[[],[0],[1],[2],[],[],[5],[6],[7],[],[9],[10],[11],[],[12,13],[14],[],[16],[17],[18],[],[19,20],[21],[8,15,22],[3,4,23]]) (L1:=[0,1,2,3,4,5,6,7,8,9,10,11,12,13,14,15,16,17,18,19,20,21,22,23,24]) (ex:=[]) (by kernel_rfl) rfl (by kernel_rfl) ?_ ?_ (yf ?_)
   ·repeat' first|exact zO|refine ze ?_ ?_|exact fun _ _ _ _ h _=>h
   ·refine ze (zg rfl [] ?_) (ze (zg rfl [(0,some 16)] ?_) (ze (zg rfl [(1,some 17)] ?_) (ze (zg rfl [(2,some 18)] ?_) (ze (zg rfl [] ?_) (ze (zg rfl [] ?_) (ze (zg rfl [(5,some 21)] ?_) (ze (zg rfl [(6,some 22)] ?_) (ze (zg rfl [(7,some 23)] ?_) (ze (zg rfl [] ?_) (ze (zg rfl [(9,some 25)] ?_) (ze (zg rfl [(10,some 26)] ?_) (ze (zg rfl [(11,some 27)] ?_) (ze (zg rfl [] ?_) (ze (zg rfl [(12,some 28),(13,some 29)] ?_) (ze (zg rfl [(14,some 30)] ?_) (ze (zg rfl [] ?_) (ze (zg rfl [(16,some 32)] ?_) (ze (zg rfl [(17,some 33)] ?_) (ze (zg rfl [(18,some 34)] ?_) (ze (zg rfl [] ?_) (ze (zg rfl [(19,some 35),(20,some 36)] ?_) (ze (zg rfl [(21,some 37)] ?_) (ze ?_ (ze ?_ zO))))))))))))))))))))))));all_goals try (intro vs W hW hd K hK;(try simp only [zR,zc,and_true,List.getD_cons_succ,List.getD_cons_zero] at hd);(first | simp only [hd,zo,Act.put,zx,zw,zv,zm,zl,zk] at hK ⊢ | simp only [zo,Act.put,zx,zw,zv,zm,zl,zk] at hK ⊢ | skip);obtain ⟨m1,m2,m3,m4,m5,m6,m7⟩:=HS.out W hW;go_simp;exact hK.out _ _ rfl (zA _ _) (qS rfl))
    ·refine qo rfl [(8,some 24),(15,some 31),(22,some 38)] ?_;intro vs W hW hd K hK;have d8:vs 8 = .func (.func 36) #[] #[]:=hd 8 (by decide);have d15:vs 15 = .agg #[.string (zb x)]:=hd 15 (by decide);have d22:vs 22 = .agg #[.string (zb z)]:=hd 22 (by decide);clear hd;try simp only [d8,d15,d22,zo,Act.put,zx,zw,zv,zm,zl,zk] at hK ⊢
     go_simp;go_at_call 36;(with_reducible first | refine (HAD.out _).mono ?_);rintro e w9 ⟨rfl,hb9⟩;exact hK.out _ _ (rfl) hb9 (fun h=>absurd h (by decide))
    ·refine qo rfl [(3,some 19),(4,some 20),(23,some 39)] ?_;intro vs W hW hd K hK;have d3:vs 3 = .func (.func 48) #[] #[]:=hd 3 (by decide);have d4:vs 4 = .agg #[.string (zb p)]:=hd 4 (by decide);have d23:vs 23 = .agg #[.string (zb g)]:=hd 23 (by decide);clear hd;try simp only [d3,d4,d23,zo,Act.put,zx,zw,zv,zm,zl,zk] at hK ⊢
     go_simp;go_at_call 48;(with_reducible first | refine (HMU.out _).mono ?_);rintro e w9 ⟨rfl,hb9⟩;exact hK.out _ _ (rfl) hb9 (fun h=>absurd h (by decide))
   refine qT [(0,some 16),(1,some 17),(2,some 18),(3,some 19),(4,some 20),(5,some 21),(6,some 22),(7,some 23),(8,some 24),(9,some 25),(10,some 26),(11,some 27),(12,some 28),(13,some 29),(14,some 30),(15,some 31),(16,some 32),(17,some 33),(18,some 34),(19,some 35),(20,some 36),(21,some 37),(22,some 38),(23,some 39),(24,some 40)] #[true,true,true,true,true,true,true,true,true,true,true,true,true,true,true,true,true,true,true,true,true,true,true,true,true,false] 1 ?_;intro vs Wf hW hd hbk hdis kf;simp only [zR,zc,and_true,List.getD_cons_succ,List.getD_cons_zero] at hd;obtain ⟨d0,d1,d2,d3,d4,d5,d6,d7,d8,d9,d10,d11,d12,d13,d14,d15,d16,d17,d18,d19,d20,d21,d22,d23,d24⟩:=hd;clear hbk hdis;try simp only [d0,d1,d2,d3,d4,d5,d6,d7,d8,d9,d10,d11,d12,d13,d14,d15,d16,d17,d18,d19,d20,d21,d22,d23,d24,zo,Act.put,zx,zw,zv,zm,zl,zk]
   clear d0 d1 d2 d3 d4 d5 d6 d7 d8 d9 d10 d11 d12 d13 d14 d15 d16 d17 d18 d19 d20 d21 d22 d23 d24 vs;clear HS;have qf:=q.below hW;have c0:=qf.acc.cell (i:=0) (by decide);have z0:=qf.acc.frozen 0;refine qt 25 (by kernel_rfl) rfl (fun K hK=>?_);go_simp;refine hK.out _ _ ?_;clear hK K;try simp only [zo,Act.put,zx,zw,zv,zm,zl,zk]
   refine qV (by kernel_rfl) ?_ _;all_goals
    try go_wp2
    go_roundw
    case rel=>exact ⟨k+1,by omega,by go_num,Rd.more (rdFar (Rd.more (Rd.below HRS.out hW) hW.size) hAs2 _ _) (by simp),by rw [HNX.out];exact qf.put1 _⟩
    case measure=>simp [intOf];omega
  ·obtain rfl:k=V.length:=by omega
   have e1:V.take V.length=V:=List.take_length;rw [e1] at q;have r0:=q.res;have hbl2:=q.bl;obtain ⟨Y,hY⟩:∃ Y,(RL n lo hi).wide y V=Y:=⟨_,rfl⟩;rw [hY] at q;have HY:=za hY;have c0:wr.cell? ⟨w.heap.size,0,none⟩=some (.string (zb Y)):=q.acc.cell (i:=0) (by decide);have z0:=r0.frozen 0;have k0:wr.cell? ⟨w.heap.size+1+1,0,none⟩=some (.string ⟨#[]⟩):=r0.cell (i:=0) (by decide);clear q hrs hY HVS HWN HSM HB1 HB2 HCE HCL HCH;go_wp2_with fail
   exact yN rfl _ rfl ((r0.set 0 (.string (zb Y))).congr fun i hi=>by
    have e:i=0:=by omega
    subst e;rfl) rfl ⟨by rw [HY.out],hbl2.setCell (by simp <;> omega) _⟩
theorem zil (w:World) (b cl ch n:Nat) (lo hi:List Pr) (Al Ah:Option Addr) (yn yd:Nat) (s:Nat) (hT:Tab w) (hbs:b<w.heap.size)
  (h6:w.cell? ⟨b,13,none⟩=some (.func (.func 50) #[] #[])) (h7:w.cell? ⟨b,14,none⟩=some (.func (.func 51) #[] #[])) (h8:w.cell? ⟨b,15,none⟩=some (.slice Al (n+1) cl)) (h9:w.cell? ⟨b,16,none⟩=some (.slice Ah (n+1) ch))
  (hlo:Rd w w.heap.size Al ((n+1)*2) (zT lo)) (hhi:Rd w w.heap.size Ah ((n+1)*2) (zT hi)) (hs:∀ u∈vl s,u.natAbs≤n)
  (hsm:∀ m,Sp ((RP n lo hi).wide (yn,yd) ((vl s).take m))) (hb1:∀ v,1≤v→Sp (lo.getD v (0,0))∧Sp (hi.getD v (0,0))) (hb2:∀ u,Sp ((RP n lo hi).both u)) :
  Calls Tryz.prog 113 #[.pointer (some ⟨b,11,none⟩),zZ yn yd,zY s] w fun e w'=>e = .returned (zZ ((RP n lo hi).wide (yn,yd) (vl s)).1 ((RP n lo hi).wide (yn,yd) (vl s)).2)∧Below w.heap.size w w':=by
 obtain ⟨V,hV⟩:∃ V,vl s=V:=⟨_,rfl⟩;have hVb:=zhT s;have hvl:=fun W hT=>zhQ W s hT;have hVl:=zbe s;rw [hV] at hs hsm hVb hvl hVl;rw [hV];have HVL:=za hvl;have hwn:=fun k hk=>zhO (RP n lo hi) (yn,yd) V k hk;have HWN:=za hwn;have HSM:=za hsm;have HB1:=za hb1;have HB2:=za hb2;have HVS:=za (show ∀ u∈V,1≤u∧u.natAbs≤n from fun u hu=>⟨(hVb u hu).1,hs u hu⟩);have hw0:(RP n lo hi).wide (yn,yd) (V.take 0)=(yn,yd):=rfl;have HTB:=za (fun W (hb:Below w.heap.size w W)=>hT.below hb);have HCE:=za (fun W (hb:Below w.heap.size w W)=>(⟨zy hb h6 hbs,zy hb h7 hbs,zy hb h8 hbs,zy hb h9 hbs⟩ :
  W.cell? ⟨b,13,none⟩=some (.func (.func 50) #[] #[])∧W.cell? ⟨b,14,none⟩=some (.func (.func 51) #[] #[])∧W.cell? ⟨b,15,none⟩=some (.slice Al (n+1) cl)∧W.cell? ⟨b,16,none⟩=some (.slice Ah (n+1) ch)))
 obtain ⟨bl,ol,rfl,hbl,hcl⟩:=hlo (by omega);obtain ⟨bh,oh,rfl,hbh,hch⟩:=hhi (by omega);have HCL:=za hcl;have HCH:=za hch;clear hvl hwn hsm hb1 hb2 hVb hs h6 h7 h8 h9 hlo hhi hcl hch hT hV;have q0:WdAt w 60 2 #[.string ⟨#[]⟩,.string ⟨#[]⟩] #[.string (zb yn),.string (zb yd)] (((w.alloc (.cells #[.string (zb yn),.string (zb yd)] 60)).alloc (.cells #[.int .u64 (Cs.lo s:Int),.int .u64 (Cs.hi s:Int)] 138)).alloc (.cells #[.string ⟨#[]⟩,.string ⟨#[]⟩] 60)) :=
  ⟨zU _ _ _ _ _ (by simp) rfl,((zU w _ _ _ _ rfl rfl).alloc _).alloc _,(((zA _ _).alloc (zi _) _).alloc (by simp) _).alloc (by simp;omega) _⟩
 go_enter Tryz.func113, Tryz.ntmps113;go_wp2_with fail
 refine (HVL.out _ (HTB.out _ q0.bl)).mono ?_;rintro e w1 ⟨As,cs,rfl,hrs,hAs,hb1⟩;have hAs2:∀ b o,As=some ⟨b,o,none⟩→b≠w.heap.size:=fun b o h=>by
  have:=hAs b o h;have:=q0.res.lt;omega
 have q1:=q0.below hb1;clear hb1 hAs q0;go_wp2_with fail
 go_loopw [12] (fun t wr=>∃ k:Nat,k≤V.length∧t = .int .i64 (k:Int)∧Rd wr wr.heap.size As V.length (zJ V)∧WdAt w 60 2 #[.string ⟨#[]⟩,.string ⟨#[]⟩] #[.string (zb ((RP n lo hi).wide (yn,yd) (V.take k)).1),.string (zb ((RP n lo hi).wide (yn,yd) (V.take k)).2)] wr) (fun t _=>V.length-(intOf t).toNat)
 case atStart=>exact ⟨0,Nat.zero_le _,rfl,hrs,by rw [hw0];exact q1⟩
 case round =>
  clear hrs q1;obtain ⟨k,hk,rfl,hrs,q⟩:=hrel;by_cases hlt:k<V.length
  ·obtain ⟨bA,oA,rfl,hbA,hcA⟩:=hrs (by omega);have cA:=hcA k hlt;clear hcA;obtain ⟨hv1,hv2⟩:=HVS.out V[k] (List.getElem_mem hlt);have hwk:=HWN.out k hlt;obtain ⟨v,hv⟩:∃ v:Nat,V[k]=(v:Int):=⟨V[k].toNat,by omega⟩;have cA2:zJ V k = .int .i64 (v:Int):=by
    unfold zJ;rw [List.getD_eq_getElem?_getD,List.getElem?_eq_getElem hlt,← hv];rfl
   rw [cA2] at cA;rw [hv] at hwk hv1 hv2;rw [Int.natAbs_natCast] at hv2;have hv1':1≤v:=by omega
   rw [zkO hv1' hv2] at hwk;have hbb:=HB2.out (v:Int);rw [zkO hv1' hv2] at hbb;have hsk:=HSM.out k;obtain ⟨hx8,hz8⟩:=HB1.out v hv1';obtain ⟨h6,h7,h8,h9⟩:=HCE.out _ q.bl;have l1:wr.cell? ⟨bl,ol+v*2,none⟩=some (.string (zb (lo.getD v (0,0)).1)):=(q.bl.cell (p:=⟨bl,ol+v*2,none⟩) hbl).trans ((HCL.out (v*2) (by omega)).trans (by rw [jB]));have l1':wr.cell? ⟨bl,ol+v*2+1,none⟩=some (.string (zb (lo.getD v (0,0)).2)):=(q.bl.cell (p:=⟨bl,ol+v*2+1,none⟩) hbl).trans ((HCL.out (v*2+1) (by omega)).trans (by rw [jC]));have l2:wr.cell? ⟨bh,oh+v*2,none⟩=some (.string (zb (hi.getD v (0,0)).1)):=(q.bl.cell (p:=⟨bh,oh+v*2,none⟩) hbh).trans ((HCH.out (v*2) (by omega)).trans (by rw [jB]));have l2':wr.cell? ⟨bh,oh+v*2+1,none⟩=some (.string (zb (hi.getD v (0,0)).2)):=(q.bl.cell (p:=⟨bh,oh+v*2+1,none⟩) hbh).trans ((HCH.out (v*2+1) (by omega)).trans (by rw [jC]));have l3:wr.cell? ⟨w.heap.size,0,none⟩=some (.string (zb ((RP n lo hi).wide (yn,yd) (V.take k)).1)):=q.acc.cell (i:=0) (by decide);have l3':wr.cell? ⟨w.heap.size,1,none⟩=some (.string (zb ((RP n lo hi).wide (yn,yd) (V.take k)).2)):=q.acc.cell (i:=1) (by decide);generalize lo.getD v (0,0)=x at *
   generalize hi.getD v (0,0)=z at *
   obtain ⟨xn,xd⟩:=x;obtain ⟨zn,zd⟩:=z;obtain ⟨p,hp⟩:∃ p,(RP n lo hi).wide (yn,yd) (V.take k)=p:=⟨_,rfl⟩;rw [hp] at hwk hsk l3 l3';clear hp;obtain ⟨pn,pd⟩:=p;obtain ⟨g,hg⟩:∃ g,y5 (xn,xd) (zn,zd)=g:=⟨_,rfl⟩;rw [hg] at hwk hbb;obtain ⟨gn,gd⟩:=g;obtain ⟨r,hr⟩:∃ r,jJ (pn,pd) (gn,gd)=r:=⟨_,rfl⟩;obtain ⟨rn,rd⟩:=r;replace hwk:(RP n lo hi).wide (yn,yd) (V.take (k+1))=(rn,rd):=hwk.trans hr;have hadd:∀ W,Calls Tryz.prog 50 #[zZ xn xd,zZ zn zd] W fun e w'=>e = .returned (zZ gn gd)∧Below W.heap.size W w':=fun W=>by
    have:=zjZ W xn xd zn zd hx8.1 hx8.2 hz8.1 hz8.2;have e1:(y5 (xn,xd) (zn,zd)).1=gn:=by rw [hg]
    have e2:(y5 (xn,xd) (zn,zd)).2=gd:=by rw [hg]
    rw [← e1,← e2];exact this
   have hmul:∀ W,Calls Tryz.prog 51 #[zZ pn pd,zZ gn gd] W fun e w'=>e = .returned (zZ rn rd)∧Below W.heap.size W w':=fun W=>by
    have:=zhl W pn pd gn gd hsk.1 hsk.2 hbb.1 hbb.2;have e1:(jJ (pn,pd) (gn,gd)).1=rn:=by rw [hr]
    have e2:(jJ (pn,pd) (gn,gd)).2=rd:=by rw [hr]
    rw [← e1,← e2];exact this
   have HAD:=za hadd;have HMU:=za hmul;clear hadd hmul hg hr;have hbw:b<wr.heap.size:=Nat.lt_of_lt_of_le hbs q.bl.size;have hblw:bl<wr.heap.size:=Nat.lt_of_lt_of_le hbl q.bl.size;have hbhw:bh<wr.heap.size:=Nat.lt_of_lt_of_le hbh q.bl.size;have hyw:=q.acc.lt;have i1:(0:Int)≤(k:Int):=by omega
   have i2:(k:Int)<(V.length:Int):=by omega
   have i3:(v:Int)<((n+1:Nat):Int):=by omega
   have i4:(0:Int)≤(v:Int):=by omega
   have i5:(v:Int)<(n:Int)+1:=by omega
   have HRS:=za hrs;have HNX:=za hwk;clear cA2 hv hwk hbb hsk hx8 hz8 hrs;go_wp2_with fail
   have s1:=h7;have s2:=h6;have s3:=h8;have s4:=h9;have s5:=l3;have s6:=l3';have s7:=l1;have s8:=l1';have s9:=l2;have s10:=l2';clear h6 h7 h8 h9 l1 l1' l2 l2' l3 l3' cA;have HS:Hid (∀ W,Below wr.heap.size wr W→W.cell? ⟨b,14,none⟩=some (.func (.func 51) #[] #[])∧W.cell? ⟨b,13,none⟩=some (.func (.func 50) #[] #[])∧W.cell? ⟨b,15,none⟩=some (.slice (some ⟨bl,ol,none⟩) (n+1) cl)∧W.cell? ⟨b,16,none⟩=some (.slice (some ⟨bh,oh,none⟩) (n+1) ch)∧W.cell? ⟨w.heap.size,0,none⟩=some (.string (zb pn))∧W.cell? ⟨w.heap.size,1,none⟩=some (.string (zb pd))∧W.cell? ⟨bl,ol+v*2,none⟩=some (.string (zb xn))∧W.cell? ⟨bl,ol+v*2+1,none⟩=some (.string (zb xd))∧W.cell? ⟨bh,oh+v*2,none⟩=some (.string (zb zn))∧W.cell? ⟨bh,oh+v*2+1,none⟩=some (.string (zb zd))):=za fun W hb=>⟨zy hb s1 hbw,zy hb s2 hbw,zy hb s3 hbw,zy hb s4 hbw,zy hb s5 hyw,zy hb s6 hyw,zy hb s7 hblw,zy hb s8 hblw,zy hb s9 hbhw,zy hb s10 hbhw⟩;refine yc (n:=_) (PX:=[zc (.pointer (some ⟨b,11,none⟩)),
      zc (.pointer (some ⟨b,11,none⟩)),
      zc (.pointer (some ⟨b,14,none⟩)),
      zc (.func (.func 51) #[] #[]),
      zc (.agg #[.string (zb pn),.string (zb pd)]),
      zc (.pointer (some ⟨b,11,none⟩)),
      zc (.pointer (some ⟨b,11,none⟩)),
      zc (.pointer (some ⟨b,13,none⟩)),
      zc (.func (.func 50) #[] #[]),
      zc (.pointer (some ⟨b,11,none⟩)),
      zc (.pointer (some ⟨b,11,none⟩)),
      zc (.pointer (some ⟨b,15,none⟩)),
      zc (.slice (some ⟨bl,ol,none⟩) (n+1) cl),
      zc (.int .i64 (v:Int)),
      zc (.pointer (some ⟨bl,ol+v*2,none⟩)),
      zc (.agg #[.string (zb xn),.string (zb xd)]),
      zc (.pointer (some ⟨b,11,none⟩)),
      zc (.pointer (some ⟨b,11,none⟩)),
      zc (.pointer (some ⟨b,16,none⟩)),
      zc (.slice (some ⟨bh,oh,none⟩) (n+1) ch),
      zc (.int .i64 (v:Int)),
      zc (.pointer (some ⟨bh,oh+v*2,none⟩)),
      zc (.agg #[.string (zb zn),.string (zb zd)]),
      zc (.agg #[.string (zb gn),.string (zb gd)]),
      zc (.agg #[.string (zb rn),.string (zb rd)])])
     (AL:=[]) (DP:=[[],[0],[1],[2],[],[],[5],[6],[7],[],[9],[10],[11],[],[12,13],[14],[],[16],[17],[18],[],[19,20],[21],[8,15,22],[3,4,23]]) (L1:=[0,1,2,3,4,5,6,7,8,9,10,11,12,13,14,15,16,17,18,19,20,21,22,23,24]) (ex:=[]) (by kernel_rfl) rfl (by kernel_rfl) ?_ ?_ (yf ?_)
   ·repeat' first|exact zO|refine ze ?_ ?_|exact fun _ _ _ _ h _=>h
   ·refine ze (zg rfl [] ?_) (ze (zg rfl [(0,some 16)] ?_) (ze (zg rfl [(1,some 17)] ?_) (ze (zg rfl [(2,some 18)] ?_) (ze (zg rfl [] ?_) (ze (zg rfl [] ?_) (ze (zg rfl [(5,some 21)] ?_) (ze (zg rfl [(6,some 22)] ?_) (ze (zg rfl [(7,some 23)] ?_) (ze (zg rfl [] ?_) (ze (zg rfl [(9,some 25)] ?_) (ze (zg rfl [(10,some 26)] ?_) (ze (zg rfl [(11,some 27)] ?_) (ze (zg rfl [] ?_) (ze (zg rfl [(12,some 28),(13,some 29)] ?_) (ze (zg rfl [(14,some 30)] ?_) (ze (zg rfl [] ?_) (ze (zg rfl [(16,some 32)] ?_) (ze (zg rfl [(17,some 33)] ?_) (ze (zg rfl [(18,some 34)] ?_) (ze (zg rfl [] ?_) (ze (zg rfl [(19,some 35),(20,some 36)] ?_) (ze (zg rfl [(21,some 37)] ?_) (ze ?_ (ze ?_ zO))))))))))))))))))))))));all_goals try (intro vs W hW hd K hK;(try simp only [zR,zc,and_true,List.getD_cons_succ,List.getD_cons_zero] at hd);(first | simp only [hd,zo,Act.put,zx,zw,zv,zm,zl,zk] at hK ⊢ | simp only [zo,Act.put,zx,zw,zv,zm,zl,zk] at hK ⊢ | skip);obtain ⟨m1,m2,m3,m4,m5,m6,m7,m8,m9,m10⟩:=HS.out W hW;go_simp;exact hK.out _ _ rfl (zA _ _) (qS rfl))
    ·refine qo rfl [(8,some 24),(15,some 31),(22,some 38)] ?_;intro vs W hW hd K hK;have d8:vs 8 = .func (.func 50) #[] #[]:=hd 8 (by decide);have d15:vs 15 = .agg #[.string (zb xn),.string (zb xd)]:=hd 15 (by decide);have d22:vs 22 = .agg #[.string (zb zn),.string (zb zd)]:=hd 22 (by decide);clear hd;try simp only [d8,d15,d22,zo,Act.put,zx,zw,zv,zm,zl,zk] at hK ⊢
     go_simp;go_at_call 50;(with_reducible first | refine (HAD.out _).mono ?_);rintro e w9 ⟨rfl,hb9⟩;exact hK.out _ _ (rfl) hb9 (fun h=>absurd h (by decide))
    ·refine qo rfl [(3,some 19),(4,some 20),(23,some 39)] ?_;intro vs W hW hd K hK;have d3:vs 3 = .func (.func 51) #[] #[]:=hd 3 (by decide);have d4:vs 4 = .agg #[.string (zb pn),.string (zb pd)]:=hd 4 (by decide);have d23:vs 23 = .agg #[.string (zb gn),.string (zb gd)]:=hd 23 (by decide);clear hd;try simp only [d3,d4,d23,zo,Act.put,zx,zw,zv,zm,zl,zk] at hK ⊢
     go_simp;go_at_call 51;(with_reducible first | refine (HMU.out _).mono ?_);rintro e w9 ⟨rfl,hb9⟩;exact hK.out _ _ (rfl) hb9 (fun h=>absurd h (by decide))
   refine qT [(0,some 16),(1,some 17),(2,some 18),(3,some 19),(4,some 20),(5,some 21),(6,some 22),(7,some 23),(8,some 24),(9,some 25),(10,some 26),(11,some 27),(12,some 28),(13,some 29),(14,some 30),(15,some 31),(16,some 32),(17,some 33),(18,some 34),(19,some 35),(20,some 36),(21,some 37),(22,some 38),(23,some 39),(24,some 40)] #[true,true,true,true,true,true,true,true,true,true,true,true,true,true,true,true,true,true,true,true,true,true,true,true,true,false] 1 ?_;intro vs Wf hW hd hbk hdis kf;simp only [zR,zc,and_true,List.getD_cons_succ,List.getD_cons_zero] at hd;obtain ⟨d0,d1,d2,d3,d4,d5,d6,d7,d8,d9,d10,d11,d12,d13,d14,d15,d16,d17,d18,d19,d20,d21,d22,d23,d24⟩:=hd;clear hbk hdis;try simp only [d0,d1,d2,d3,d4,d5,d6,d7,d8,d9,d10,d11,d12,d13,d14,d15,d16,d17,d18,d19,d20,d21,d22,d23,d24,zo,Act.put,zx,zw,zv,zm,zl,zk]
   clear d0 d1 d2 d3 d4 d5 d6 d7 d8 d9 d10 d11 d12 d13 d14 d15 d16 d17 d18 d19 d20 d21 d22 d23 d24 vs;clear HS;have qf:=q.below hW;have c0:=qf.acc.cell (i:=0) (by decide);have z0:=qf.acc.frozen 0;have c1:=qf.acc.cell (i:=1) (by decide);have z1:=qf.acc.frozen 1;refine qt 25 (by kernel_rfl) rfl (fun K hK=>?_);go_simp;refine hK.out _ _ ?_;clear hK K;try simp only [zo,Act.put,zx,zw,zv,zm,zl,zk]
   refine qV (by kernel_rfl) ?_ _;all_goals
    try go_wp2
    go_roundw
    case rel=>exact ⟨k+1,by omega,by go_num,Rd.more (rdFar (rdFar (Rd.more (Rd.below HRS.out hW) hW.size) hAs2 _ _) hAs2 _ _) (by simp),by rw [HNX.out];exact qf.put2 _ _⟩
    case measure=>simp [intOf];omega
  ·obtain rfl:k=V.length:=by omega
   have e1:V.take V.length=V:=List.take_length;rw [e1] at q;have r0:=q.res;have hbl2:=q.bl;obtain ⟨Y,hY⟩:∃ Y,(RP n lo hi).wide (yn,yd) V=Y:=⟨_,rfl⟩;rw [hY] at q;obtain ⟨Yn,Yd⟩:=Y;have HY:=za hY;have c0:wr.cell? ⟨w.heap.size,0,none⟩=some (.string (zb Yn)):=q.acc.cell (i:=0) (by decide);have c1:wr.cell? ⟨w.heap.size,1,none⟩=some (.string (zb Yd)):=q.acc.cell (i:=1) (by decide);have z0:=r0.frozen 0;have z1:=r0.frozen 1;have k0:wr.cell? ⟨w.heap.size+1+1,0,none⟩=some (.string ⟨#[]⟩):=r0.cell (i:=0) (by decide);have k1:wr.cell? ⟨w.heap.size+1+1,1,none⟩=some (.string ⟨#[]⟩):=r0.cell (i:=1) (by decide);clear q hrs hY HVS HWN HSM HB1 HB2 HCE HCL HCH;go_wp2_with fail
   exact zck rfl Yn Yd rfl (zdU (yH r0 _ _)) rfl ⟨by rw [HY.out],(hbl2.setCell (by simp <;> omega) _).setCell (by simp <;> omega) _⟩
end Go.Proofs.YtoljkoifgnmbgaaGreatDoor
