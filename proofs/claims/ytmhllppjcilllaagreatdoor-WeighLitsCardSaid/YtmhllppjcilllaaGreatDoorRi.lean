import Derived.Test.YtmhllppjcilllaaGreatDoorRf
import Derived.Test.YtmhllppjcilllaaGreatDoorEr
import Derived.Test.YtmhllppjcilllaaGreatDoorS1
import Derived.Test.YtmhllppjcilllaaGreatDoorQ1
import Derived.Lib.MinMax
import Derived.Deep.RegionLaw
import Derived.Deep.CutRange
set_option linter.unusedSimpArgs false
set_option linter.unusedVariables false
section
set_option maxRecDepth 100000
open Go Go.RowKit Cs
namespace Cs
def y6 (L:List Rat) (i:Nat):Value:=if i / 2<L.length then zL L i else .string ⟨#[]⟩
theorem rfF_in (L M:List Rat) (i:Nat) (h:L.getD (i / 2) 0=M.getD (i / 2) 0):zL L i=zL M i:=by unfold zL;rw [h]
theorem rzMade (w:World) (m:Nat) (t:TypeId) (g:Nat) (hg:w.heap.size=g):(w.alloc (.cells (madeCells #[.string ⟨#[]⟩,.string ⟨#[]⟩] (m*2)) t)).rowIs g t (m*2) (y6 []):=by
 subst hg;have h:=World.rowIs_alloc w (madeCells #[.string ⟨#[]⟩,.string ⟨#[]⟩] (m*2)) t (y6 []) fun i hi=>by
  simp [size_madeCells] at hi;unfold madeCells y6;rw [if_neg (by simp)];have:i%2=0∨i%2=1:=by omega
  rcases this with h | h <;> simp [h,hi]
 simpa [size_madeCells] using h
section
variable {w:World} {g n:Nat} {t:TypeId} {L:List Rat}
theorem rzAt (h:w.rowIs g t (n*2) (y6 L)) (k:Nat) (hk:k<L.length) (hn:k<n) :
  w.cell? ⟨g,k*2,none⟩=some (.string (zc (qn (L.getD k 0))))∧w.cell? ⟨g,k*2+1,none⟩=some (.string (zc (L.getD k 0).den)):=by
 have h1:=h.cell (i:=k*2) (by omega);have h2:=h.cell (i:=k*2+1) (by omega);unfold y6 at h1 h2;rw [if_pos (by omega),oP] at h1;rw [if_pos (by omega),oQ] at h2;exact ⟨h1,h2⟩
theorem rzPut (h:w.rowIs g t (n*2) (y6 L)) (M:List Rat) (p:Rat) (k:Nat) (hM:∀ i,i≠k→M.getD i 0=L.getD i 0) (hk:M.getD k 0=p) (hl:∀ i,i≠k→(i<M.length↔i<L.length)) (hkl:k<M.length) :
  ((w.setCell ⟨g,k*2,none⟩ (.string (zc (qn p)))).setCell ⟨g,k*2+1,none⟩ (.string (zc p.den))).rowIs g t (n*2) (y6 M):=by
 refine ((h.set _ _).set _ _).congr fun i hi=>?_;by_cases h1:i=k*2+1
 ·subst h1;rw [if_pos rfl];unfold y6;rw [if_pos (by omega),oQ,hk]
 ·rw [if_neg h1];by_cases h2:i=k*2
  ·subst h2;rw [if_pos rfl];unfold y6;rw [if_pos (by omega),oP,hk]
  ·rw [if_neg h2];have h3:i / 2≠k:=by omega
   unfold y6;by_cases h4:i / 2<L.length
   ·rw [if_pos h4,if_pos ((hl _ h3).2 h4)];exact rfF_in _ _ _ (hM _ h3).symm
   ·rw [if_neg h4,if_neg (fun h=>h4 ((hl _ h3).1 h))]
theorem rzNext (h:w.rowIs g t (n*2) (y6 L)) (p:Rat) (k:Nat) (hk:k=L.length) :
  ((w.setCell ⟨g,k*2,none⟩ (.string (zc (qn p)))).setCell ⟨g,k*2+1,none⟩ (.string (zc p.den))).rowIs g t (n*2) (y6 (L++[p])):=by
 subst hk;refine rzPut h _ p _ (fun i hi=>?_) ?_ (fun i hi=>by simp;omega) (by simp)
 ·rw [List.getD_eq_getElem?_getD,List.getD_eq_getElem?_getD];rcases Nat.lt_or_ge i L.length with h2 | h2
  ·rw [List.getElem?_append_left h2]
  ·rw [List.getElem?_append_right h2,List.getElem?_eq_none (by simp;omega),List.getElem?_eq_none (by omega)]
 ·rw [List.getD_eq_getElem?_getD,List.getElem?_append_right (zu _)];simp
theorem rzLast {s:Rat} (h:w.rowIs g t (n*2) (y6 (L++[s]))) (p:Rat) (k:Nat) (hk:k=L.length) :
  ((w.setCell ⟨g,k*2,none⟩ (.string (zc (qn p)))).setCell ⟨g,k*2+1,none⟩ (.string (zc p.den))).rowIs g t (n*2) (y6 (L++[p])):=by
 subst hk;refine rzPut h _ p _ (fun i hi=>?_) ?_ (fun i hi=>by simp) (by simp)
 ·rw [List.getD_eq_getElem?_getD,List.getD_eq_getElem?_getD];rcases Nat.lt_or_ge i L.length with h2 | h2
  ·rw [List.getElem?_append_left h2,List.getElem?_append_left h2]
  ·rw [List.getElem?_append_right h2,List.getElem?_append_right h2,List.getElem?_eq_none (by simp;omega),List.getElem?_eq_none (by simp;omega)]
 ·rw [List.getD_eq_getElem?_getD,List.getElem?_append_right (zu _)];simp
end
end Cs
namespace Go.Proofs.YtmhllppjcilllaaGreatDoor
theorem zfc:(Tryz.prog.info? 42).map (fun i=>(i.zero,i.size,i.bytes))=some (some (.agg #[.string ⟨#[]⟩,.string ⟨#[]⟩]),2,32):=by kernel_rfl
theorem mk_rfat (n:Nat) (h:n≤1000000000) (u:World):(Instr.makeSlice 45 (.int .i64 (n:Int)) (.int .i64 (n:Int))).run Tryz.prog u =
  .ok (.slice (some ⟨u.heap.size,0,none⟩) n n) (u.alloc (.cells (madeCells #[.string ⟨#[]⟩,.string ⟨#[]⟩] (n*2)) 42)):=by
 obtain ⟨i0,hi,hz0,hz1,hz2⟩:=info_parts zfc;have hr:=run_make (P:=Tryz.prog) u 45 42 i0 _ Tryz.underlying45 hi hz0 .i64 .i64 n n (by omega) (Int.le_refl _) (by rw [hz2];omega) (by omega);simp only [Int.toNat_natCast,hz1] at hr;exact hr
theorem rone33 (w:World):Calls Tryz.prog 85 #[] w fun e w'=>e = .returned (zS 1)∧Below w.heap.size w w':=by
 have hr:=zF w #[.string ⟨#[]⟩,.string ⟨#[]⟩] 42 w.heap.size 2 rfl rfl;have hb:=(Below.refl w.heap.size w).alloc (zu _) (.cells #[.string ⟨#[]⟩,.string ⟨#[]⟩] 42);have y1:=hr.frozen 0;have y2:=hr.frozen 1;have z1:(w.alloc (.cells #[.string ⟨#[]⟩,.string ⟨#[]⟩] 42)).cell? ⟨w.heap.size,0,none⟩=some (.string ⟨#[]⟩):=hr.cell (i:=0) (by decide);have z2:(w.alloc (.cells #[.string ⟨#[]⟩,.string ⟨#[]⟩] 42)).cell? ⟨w.heap.size,1,none⟩=some (.string ⟨#[]⟩):=hr.cell (i:=1) (by decide);go_enter Tryz.func85, Tryz.ntmps85;go_wp2;refine zfC rfl rfl (zF w _ _ _ 2 rfl rfl) rfl ⟨?_,(Below.refl w.heap.size w).alloc (zu _) _⟩;have e1:qn (1:Rat)=1:=by decide
 have e2:(1:Rat).den=1:=rfl;unfold zS;rw [e1,e2,dec1]
end Go.Proofs.YtmhllppjcilllaaGreatDoor
end
section
set_option maxRecDepth 100000
set_option maxHeartbeats 2000000
open Go Go.RowKit Cs
namespace Cs
theorem ziu {l n:Int} (h:qh l n=true):∃ m:Nat,1≤m∧m≤128∧(l=(m:Int)∨l = -(m:Int)):=by
 rcases zbZ h with h1 | h1
 ·exact ⟨l.toNat,by omega,by omega,.inl (by omega)⟩
 ·exact ⟨(-l).toNat,by omega,by omega,.inr (by omega)⟩
theorem zfM (m:Nat) (h:m≤128):zQ (m:Int)=(m:Int)∧zQ (-(m:Int))=(m:Int):=by
 unfold zQ;constructor <;> (repeat' split) <;> omega
end Cs
namespace Go.Proofs.YtmhllppjcilllaaGreatDoor
theorem setsSame {w:World} {g:Nat} {t:TypeId} {n:Nat} {L:List Nat} (h:w.rowIs g t n (qe L)):w.rowIs g t n (qe (L++[0])):=h.congr fun i hi=>by
 unfold qe;have e:(L++[0]).getD (i / 2) 0=L.getD (i / 2) 0:=by
  rw [List.getD_eq_getElem?_getD,List.getD_eq_getElem?_getD,List.getElem?_append];split
  ·rfl
  ·rename_i hh;rw [List.getElem?_eq_none (l:=L) (by omega)];rcases Nat.eq_zero_or_pos (i / 2-L.length) with h0 | h0
   ·rw [h0];rfl
   ·rw [List.getElem?_eq_none (by simp;omega)]
 rw [e]
theorem zjM (w:World) (N:Nt) (A:Option Addr) (c:Nat) (hN:NtAt w w.heap.size A N.l) (hv:zG N=true) :
  Calls Tryz.prog 103 #[qg N A c] w fun e w'=>∃ g,e = .returned (.slice (some ⟨g,0,none⟩) N.l.length N.l.length)∧w.heap.size≤g∧w'.rowIs g 96 (N.l.length*2) (qe (own N.l))∧Below w.heap.size w w':=by
 obtain ⟨hn0,hn1,hl0,hl1⟩:=qN hv;have hfm:=fun k hk=>jn hv k hk;have hso:=zgt N.l;obtain ⟨n,l⟩:=N;simp only at hN hn0 hn1 hl0 hl1 hfm hso;have HF:=zb hfm;clear hfm hv;have hbox:=yQ w ⟨n,l⟩ A c 24 _ rfl;have hbl:Below w.heap.size w (w.alloc (.cells #[.int .i64 n,.slice A l.length c] 24)):=(zx _ _).alloc (zu _) _;have hmk:=mk_set l.length (by omega);have hrow5:=ziQ (w.alloc (.cells #[.int .i64 n,.slice A l.length c] 24)) l.length 96 (w.heap.size+1) (by simp);have hbx5:=hbox.alloc (.cells (madeCells #[.int .u64 0,.int .u64 0] (l.length*2)) 96);have hbl5:=hbl.alloc hbl.size (.cells (madeCells #[.int .u64 0,.int .u64 0] (l.length*2)) 96);go_enter Tryz.func103, Tryz.ntmps103;obtain ⟨hc1,hc2⟩:=qy hbox;go_wp2_with fail
 clear hbox hbl hc1 hc2 hmk;go_loopw [4] (fun t wr=>∃ k:Nat,k≤l.length∧t = .int .i64 k∧wr.rowIs w.heap.size 24 2 (gL ⟨n,l⟩ A c)∧wr.rowIs (w.heap.size+1) 96 (l.length*2) (qe (own (l.take k)))∧Below w.heap.size w wr) (fun t _=>l.length-(intOf t).toNat)
 case atStart=>exact ⟨0,by omega,rfl,hbx5,hrow5,hbl5⟩
 case round =>
  clear hrow5 hbl5 hbx5;obtain ⟨k,hk,rfl,hbx,hrow,hbl⟩:=hrel;obtain ⟨hc1,hc2⟩:=qy hbx;simp only at hc1 hc2;have hg:=hrow.lt;by_cases hlt:k<l.length
  ·obtain ⟨b,o,rfl,hbB,hcs⟩:=hN (by omega);have hnd:=hcs k hlt;clear hcs;have ht:=jT yT l k hlt;have hfk:=HF.out k hlt;obtain ⟨x,hx⟩:∃ x,l[k]=x:=⟨_,rfl⟩;rw [hx] at hnd ht hfk;have HT:=zb ht;clear ht hx;have hin:=formed_ins hfk;have HIN:=zb hin;clear hin;obtain ⟨hk1,hk2,⟨A',c',hk3,hrd⟩,hr1,hr2,hr3,hr4⟩:=hnd;have HN1:=zb hk1;have HN2:=zb hk2;have HN3:=zb hk3;replace hk1:=zB hbl hbB hk1;replace hk2:=zB hbl hbB hk2;replace hk3:=zB hbl hbB hk3;have HRD:=zb hrd;clear hrd;obtain ⟨L,hL⟩:∃ L,own (l.take k)=L:=⟨_,rfl⟩;have hLl:L.length=k:=by rw [← hL];exact yA _ _ _ (by omega)
   have hLs:∀ j,qD (L.getD j 0):=by rw [← hL];exact zgt _
   rw [hL] at hrow
   change Hid (own (l.take (k+1))=own (l.take k)++[yT (own (l.take k)) x]) at HT
   rw [hL] at HT;have HLS:=zb hLs;clear hL hLs;have hL0:L.getD k 0=0:=by rw [List.getD_eq_getElem?_getD,List.getElem?_eq_none (by omega)];rfl
   obtain ⟨hs1,hs2,hs3,hs4⟩:=qE hrow k (by omega);rw [hL0] at hs1 hs2;have hi3:(k:Int)<(l.length:Int):=by omega
   by_cases h2:x.kind=2
   ·obtain ⟨hlo,hins⟩:=zbP hfk h2;have HLI:=zb hins;have HLN:=zb (show x.ins.length=0 by rw [hins];rfl);clear hins;obtain ⟨m0,hm1,hm2,hm3⟩:=ziu hlo;obtain ⟨q,rfl⟩:∃ q,m0=q+1:=⟨m0-1,by omega⟩;have hwt:zZ 0 (zQ x.lit)=2^q:=by
     have e:zQ x.lit=(q:Int)+1:=by
      rcases hm3 with h | h <;> rw [h]
      ·exact (zfM (q+1) (by omega)).1
      ·exact (zfM (q+1) (by omega)).2
     rw [e];unfold zZ;rw [if_pos (by omega),Nat.zero_or];congr 1
    have hkb:(x.kind==2)=true:=beq_iff_eq.2 h2;have hwi:=fun W=>zdP W 0 q (by omega);simp only [Nat.zero_or] at hwi;have hmx:max x.lit (-x.lit)=(q:Int)+1:=by omega
    have HWI:=zb hwi;obtain ⟨lt,hlt2⟩:∃ lt,x.lit=lt:=⟨_,rfl⟩;rw [hlt2] at hk2 hmx hm3 HN2;rw [hlt2] at hwt;have HWT:=zb hwt;have HLT:=zb hlt2;have hlr : -128≤lt∧lt≤128:=by omega
    obtain ⟨hlr1,hlr2⟩:=hlr;have hwn:IntKind.i64.wrap (-lt) = -lt:=IntWalk.i64_in _ (by omega);clear hwi hwt hm3 h2 hlo hlt2 hfk hL0;go_wp2_with fail
    have hrow':=hrow.drew;have hbx':=hbx.drew;have hbl':Below w.heap.size w wr.drew:=qV hbl 1;go_cut [] from 24 to 45 (fun wx=>wx.rowIs w.heap.size 24 2 (gL ⟨n,l⟩ (some ⟨b,o,none⟩) c)∧wx.rowIs (w.heap.size+1) 96 (l.length*2) (qe (L++[2^q]))∧Below w.heap.size w wx)
    case first =>
     go_region_law (
      go_simp;go_at_call 107;(with_reducible refine (HWI.out _).mono ?_);rintro e w8 ⟨rfl,hb8⟩;have hrow8:=zo hrow' hb8;have hbx8:=zo hbx' hb8;have hbl8:=zw hbl' hb8 hbl'.size;obtain ⟨hg1,hg2,hf1,hf2⟩:=qE hrow8 k (by omega))
     all_goals
      try go_wp2
      go_meet
      case rel=>exact ⟨(hbx8.setOther (by simp) _).setOther (by simp) _,ziP hrow8 k (2^q) hLl.symm,(hbl8.setCell (by simp) _).setCell (by simp) _⟩
    case rest =>
     obtain ⟨hbx8,hst,hbl8⟩:=hcut;have hwt:=HWT.out;clear hbx hrow hbl hk1 hk2 hk3 hc1 hc2 hs1 hs2 hs3 hs4 hg hbx' hrow' hbl';obtain ⟨hc1,hc2⟩:=qy hbx8;simp only at hc1 hc2;have hk3:=zB hbl8 hbB HN3.out;rw [HLN.out] at hk3;go_wp2_with fail
     go_loopw [5] (fun t wq=>t = .int .i64 0∧wq.rowIs w.heap.size 24 2 (gL ⟨n,l⟩ (some ⟨b,o,none⟩) c)∧wq.rowIs (w.heap.size+1) 96 (l.length*2) (qe (L++[2^q]))∧Below w.heap.size w wq) (fun t _=>0)
     case atStart=>exact ⟨rfl,hbx8,hst,hbl8⟩
     case round =>
      clear hbx8 hst hbl8 hc1 hc2 hk3;obtain ⟨rfl,hbx,hrow,hbl⟩:=hrel;obtain ⟨hc1,hc2⟩:=qy hbx;simp only at hc1 hc2;have hk3:=zB hbl hbB HN3.out;rw [HLN.out] at hk3;have hg2:=hrow.lt;clear hwt;go_wp2;go_roundw
      case rel =>
       refine ⟨k+1,by omega,by go_num,hbx,?_,hbl⟩;rw [HT.out];have e:yT L x=2^q:=by
        show x.ins.foldl _ (zZ 0 (zQ x.lit))=_;rw [HLI.out,HLT.out];exact HWT.out
       rw [e];exact hrow
      case measure=>simp [intOf];omega
   ·have hkb:(x.kind==2)=false:=beq_eq_false_iff_ne.2 h2;have hwt:zZ 0 (zQ x.lit)=0:=by
     rw [zfd hfk h2];rfl
    have hst:=setsSame hrow;have HWT:=zb hwt;clear hwt h2 hfk hL0;go_wp2_with fail
    go_loopw [5] (fun t wq=>∃ m:Nat,m≤x.ins.length∧t = .int .i64 m∧wq.rowIs w.heap.size 24 2 (gL ⟨n,l⟩ (some ⟨b,o,none⟩) c)∧wq.rowIs (w.heap.size+1) 96 (l.length*2) (qe (L++[(x.ins.take m).foldl (fun s k=>s ||| L.getD k.toNat 0) (zZ 0 (zQ x.lit))]))∧Below w.heap.size w wq) (fun t _=>x.ins.length-(intOf t).toNat)
    case atStart=>exact ⟨0,by omega,rfl,hbx,by rw [HWT.out];exact hst,hbl⟩
    case round =>
     clear hbx hrow hbl hk1 hk2 hk3 hc1 hc2 hs1 hs2 hs3 hs4 hg;clear hst;try clear hf1 hf2
     obtain ⟨m,hm,rfl,hbx,hrow,hbl⟩:=hrel;obtain ⟨hc1,hc2⟩:=qy hbx;simp only at hc1 hc2;have hg2:=hrow.lt;have hk3:=zB hbl hbB HN3.out;by_cases hmlt:m<x.ins.length
     ·obtain ⟨b',o',rfl,hbB',hcs⟩:=HRD.out (by omega);have hc:=zB hbl hbB' (hcs m hmlt);clear hcs;unfold zO at hc;obtain ⟨j,hj1,hj2⟩:=HIN.out m hmlt;rw [hj1] at hc;have hft:(x.ins.take (m+1)).foldl (fun s k=>s ||| L.getD k.toNat 0) (zZ 0 (zQ x.lit))=(x.ins.take m).foldl (fun s k=>s ||| L.getD k.toNat 0) (zZ 0 (zQ x.lit)) ||| L.getD j 0:=by
       have ht:x.ins.take (m+1)=x.ins.take m++[x.ins[m]]:=List.take_succ_eq_append_getElem hmlt;have he:x.ins[m]=(j:Int):=by rw [← hj1];simp [List.getD,hmlt]
       rw [ht,List.foldl_append,he];rfl
      have HFT:=zb hft;clear hft hj1;obtain ⟨s,hs⟩:∃ s,(x.ins.take m).foldl (fun s k=>s ||| L.getD k.toNat 0) (zZ 0 (zQ x.lit))=s:=⟨_,rfl⟩;rw [hs] at hrow HFT;clear hs;have hsj:(L++[s]).getD j 0=L.getD j 0:=by rw [jm,if_neg (by omega)]
      have hsk:(L++[s]).getD k 0=s:=by rw [jm,if_pos hLl.symm]
      obtain ⟨hs1,hs2,hs3,hs4⟩:=qE hrow k (by omega);obtain ⟨hs5,hs6,_,_⟩:=qE hrow j (by omega);rw [hsj] at hs5 hs6;rw [hsk] at hs1 hs2;clear hsj hsk;obtain ⟨sj,hsj⟩:∃ sj,L.getD j 0=sj:=⟨_,rfl⟩;have hss:qD sj:=by rw [← hsj];exact HLS.out j
      rw [hsj] at hs5 hs6 HFT;have hi1:(0:Int)≤(j:Int):=by omega
      have hi2:(j:Int)<(l.length:Int):=by omega
      have HUN:=zb (fun W=>zhV W s sj hss);clear hsj hss;go_wp2_with fail
      have hrow':=hrow.drew;have hbx':=hbx.drew;have hbl':Below w.heap.size w wr.drew:=qV hbl 1
      go_region_law (
       go_simp;go_at_call 142;(with_reducible refine (HUN.out _).mono ?_);rintro e w8 ⟨rfl,hb8⟩;have hrow8:=zo hrow' hb8;have hbx8:=zo hbx' hb8;have hbl8:=zw hbl' hb8 hbl'.size;obtain ⟨hk1,hk2,hf1,hf2⟩:=qE hrow8 k (by omega))
      all_goals
       try go_wp2
       go_roundw
       case rel =>
        refine ⟨m+1,by omega,by go_num,(hbx8.setOther (by simp) _).setOther (by simp) _,?_,(hbl8.setCell (by simp) _).setCell (by simp) _⟩;rw [HFT.out];exact ziR hrow8 k _ hLl.symm
       case measure=>simp [intOf];omega
     ·obtain rfl:m=x.ins.length:=by omega
      go_wp2;go_roundw
      case rel =>
       refine ⟨k+1,by omega,by go_num,hbx,?_,hbl⟩;rw [HT.out];rw [List.take_length] at hrow;exact hrow
      case measure=>simp [intOf];omega
  ·obtain rfl:k=l.length:=by omega
   go_wp2;go_ret;rw [List.take_length] at hrow;exact ⟨_,rfl,by omega,hrow,hbl⟩
end Go.Proofs.YtmhllppjcilllaaGreatDoor
end
section
open Go Go.RowKit Cs
namespace Cs
theorem zeC (s k:Nat):∀ d,vk s k <+: vk s (k+d)
 | 0=>List.prefix_refl _
 | d+1=>by
   rw [← Nat.add_assoc,zhU];split
   ·exact (zeC s k d).trans (List.prefix_append _ _)
   ·exact zeC s k d
theorem vk_take (s k:Nat) (h:k≤128):∃ m,vk s k=(vl s).take m:=by
 have h1:=zeC s k (128-k);rw [show k+(128-k)=128 by omega,vk_vl] at h1;exact ⟨_,List.prefix_iff_eq_take.1 h1⟩
theorem vk_all {s n:Nat} (hn:n≤128) (h:∀ i,n≤i→s.testBit i=false):vk s n=vl s:=by
 rw [← vk_vl,show 128=n+(128-n) by omega,j3 h]
end Cs
namespace Go.Proofs.YtmhllppjcilllaaGreatDoor
theorem rfill_vl (w:World) (q:Rat) (a s n cl ch:Nat) (lo hi:List Rat) (Al Ah:Option Addr) (hn:n≤128) (hlo:Rd w w.heap.size Al ((n+1)*2) (zL lo)) (hhi:Rd w w.heap.size Ah ((n+1)*2) (zL hi)) (hc1:n+1≤cl) (hc2:n+1≤ch)
  (hdl:∀ k,Dg (lo.getD k 0)) (hdh:∀ k,Dg (hi.getD k 0)) (hds:∀ k,Dg (lo.getD k 0+hi.getD k 0)) (ha:∀ i,n≤i→a.testBit i=false) (hdw:∀ m,Dg ((RW (Wr lo hi)).wide q ((vl (zP a s)).take m))) :
  Calls Tryz.prog 106 #[zS q,qm a,qm s,.agg #[.slice Al (n+1) cl,.slice Ah (n+1) ch]] w fun e w'=>e = .returned (zS ((RW (Wr lo hi)).wide q (vl (zP a s))))∧Below w.heap.size w w':=by
 have h0:=xL w q a s n cl ch lo hi Al Ah hn hlo hhi hc1 hc2 hdl hdh hds (fun k hk=>by obtain ⟨m,hm⟩:=vk_take (zP a s) k (by omega);rw [hm];exact hdw m);rw [vk_all hn (fun i hi=>by rw [p8,ha i hi,Bool.false_and])] at h0;exact h0
structure SuS (w:World) (N:Nt) (A:Option Addr) (c n cl ch:Nat) (Al Ah:Option Addr) (g Q:Nat) (L:List Rat) (W:World):Prop where
 fn:W.rowIs w.heap.size 24 2 (zy #[.int .i64 N.n,.slice A N.l.length c])
 fw:W.rowIs (w.heap.size+1) 47 2 (zy #[.slice Al (n+1) cl,.slice Ah (n+1) ch])
 fr:W.rowIs (w.heap.size+1+1) 42 2 (zy #[.string ⟨#[]⟩,.string ⟨#[]⟩])
 fv:W.rowIs g 96 (N.l.length*2) (qe (own N.l))
 fl:W.rowIs Q 42 (N.l.length*2) (y6 L)
 hg:w.heap.size+1+1<g
 hQ:g<Q
 bl:Below w.heap.size w W
section
variable {w W W':World} {N:Nt} {A Al Ah:Option Addr} {c n cl ch g Q:Nat} {L:List Rat} {s:Rat}
theorem SuS.below (h:SuS w N A c n cl ch Al Ah g Q L W) (hb:Below W.heap.size W W'):SuS w N A c n cl ch Al Ah g Q L W' :=
 ⟨zo h.fn hb,zo h.fw hb,zo h.fr hb,zo h.fv hb,zo h.fl hb,h.hg,h.hQ,zw h.bl hb h.bl.size⟩
theorem SuS.put (h:SuS w N A c n cl ch Al Ah g Q L W) {M:List Rat} (k:Nat) (u v:Value) (hr:((W.setCell ⟨Q,k*2,none⟩ u).setCell ⟨Q,k*2+1,none⟩ v).rowIs Q 42 (N.l.length*2) (y6 M)) :
  SuS w N A c n cl ch Al Ah g Q M ((W.setCell ⟨Q,k*2,none⟩ u).setCell ⟨Q,k*2+1,none⟩ v):=by
 have hg:=h.hg;have hQ:=h.hQ;have far:∀ {b m:Nat} {t:TypeId} {f:Nat→Value},b≠Q→W.rowIs b t m f→((W.setCell ⟨Q,k*2,none⟩ u).setCell ⟨Q,k*2+1,none⟩ v).rowIs b t m f:=fun hb hr=>(hr.setOther hb _).setOther hb _;exact ⟨far (by omega) h.fn,far (by omega) h.fw,far (by omega) h.fr,far (by omega) h.fv,hr,hg,hQ,(h.bl.setCell (by simp;omega) _).setCell (by simp;omega) _⟩
theorem SuS.next (h:SuS w N A c n cl ch Al Ah g Q L W) (p:Rat) (k:Nat) (hk:k=L.length) :
  SuS w N A c n cl ch Al Ah g Q (L++[p]) ((W.setCell ⟨Q,k*2,none⟩ (.string (zc (qn p)))).setCell ⟨Q,k*2+1,none⟩ (.string (zc p.den))):=h.put k _ _ (rzNext h.fl p k hk)
theorem SuS.last (h:SuS w N A c n cl ch Al Ah g Q (L++[s]) W) (p:Rat) (k:Nat) (hk:k=L.length) :
  SuS w N A c n cl ch Al Ah g Q (L++[p]) ((W.setCell ⟨Q,k*2,none⟩ (.string (zc (qn p)))).setCell ⟨Q,k*2+1,none⟩ (.string (zc p.den))):=h.put k _ _ (rzLast h.fl p k hk)
theorem SuS.cells (h:SuS w N A c n cl ch Al Ah g Q L W):W.cell? ⟨w.heap.size,0,none⟩=some (.int .i64 N.n)∧W.cell? ⟨w.heap.size,1,none⟩=some (.slice A N.l.length c) ∧
  W.cell? ⟨w.heap.size+1,0,none⟩=some (.slice Al (n+1) cl)∧W.cell? ⟨w.heap.size+1,1,none⟩=some (.slice Ah (n+1) ch) :=
 ⟨h.fn.cell (i:=0) (by decide),h.fn.cell (i:=1) (by decide),h.fw.cell (i:=0) (by decide),h.fw.cell (i:=1) (by decide)⟩
theorem SuS.nextz (h:SuS w N A c n cl ch Al Ah g Q L W) (k:Nat) (hk:k=L.length) :
  SuS w N A c n cl ch Al Ah g Q (L++[0]) ((W.setCell ⟨Q,k*2,none⟩ (.string (zc 0))).setCell ⟨Q,k*2+1,none⟩ (.string (zc 1))):=by
 have h0:=h.next 0 k hk;rwa [show qn (0:Rat)=0 from by decide,show (0:Rat).den=1 from rfl] at h0
theorem SuS.alloc (h:SuS w N A c n cl ch Al Ah g Q L W) (o:Obj):SuS w N A c n cl ch Al Ah g Q L (W.alloc o):=h.below ((zx _ _).alloc (zu _) _)
theorem SuS.far (h:SuS w N A c n cl ch Al Ah g Q L W) {X:Nat} (hX:Q<X) (i:Nat) (v:Value):SuS w N A c n cl ch Al Ah g Q L (W.setCell ⟨X,i,none⟩ v):=by
 have hg:=h.hg;have hQ:=h.hQ;exact ⟨h.fn.setOther (show w.heap.size≠X by omega) _,h.fw.setOther (show w.heap.size+1≠X by omega) _,h.fr.setOther (show w.heap.size+1+1≠X by omega) _,h.fv.setOther (show g≠X by omega) _,h.fl.setOther (show Q≠X by omega) _,hg,hQ,h.bl.setCell (by simp;omega) _⟩
theorem SuS.raw (h:SuS w N A c n cl ch Al Ah g Q L W) (k:Nat) (hk:k=L.length) (hn:k<N.l.length) :
  W.cell? ⟨Q,k*2,none⟩=some (.string ⟨#[]⟩)∧W.cell? ⟨Q,k*2+1,none⟩=some (.string ⟨#[]⟩):=by
 have h1:=h.fl.cell (i:=k*2) (by omega);have h2:=h.fl.cell (i:=k*2+1) (by omega);unfold y6 at h1 h2;rw [if_neg (by omega)] at h1 h2;exact ⟨h1,h2⟩
theorem SuS.at (h:SuS w N A c n cl ch Al Ah g Q L W) (k:Nat) (hk:k<L.length) (hn:k<N.l.length) :
  W.cell? ⟨Q,k*2,none⟩=some (.string (zc (qn (L.getD k 0))))∧W.cell? ⟨Q,k*2+1,none⟩=some (.string (zc (L.getD k 0).den)):=rzAt h.fl k hk hn
end
end Go.Proofs.YtmhllppjcilllaaGreatDoor
end
