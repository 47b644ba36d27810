import Derived.Test.YtmhllppjcilllaaGreatDoorS1
import Derived.Test.YtmhllppjcilllaaGreatDoorM1
import Derived.Test.YtmhllppjcilllaaGreatDoorN1
import Derived.Test.YtmhllppjcilllaaGreatDoorN2
set_option linter.unusedSimpArgs false
set_option linter.unusedVariables false
set_option maxRecDepth 100000
set_option maxHeartbeats 8000000
open Go Go.RowKit Cs
namespace Cs
theorem zb4 {x:Nd} {n b:Int} (h:qk x n b=true):((x.kind=0∨x.kind=1∨x.kind=2)∧x.ins.length=0)∨x.kind=3∨x.kind=4:=by
 unfold qk at h;split at h
 ·cases h
 ·split at h
  ·rename_i h1;simp at h
   left;exact ⟨by omega,by simpa using h.2⟩
  ·split at h
   ·rename_i h1;simp at h
    left;exact ⟨by omega,by simpa using h.2⟩
   ·split at h
    ·right;assumption
    ·cases h
theorem zgw (s:Nat):(4096<(nd 2 s:Int))↔¬ s<zR:=by
 have h:=yg 2 (by decide) jq s;have e:=zcr;rw [zdO];omega
end Cs
namespace Go.Proofs.YtmhllppjcilllaaGreatDoor
theorem xE (w:World) (N:Nt) (A:Option Addr) (c:Nat) (hN:NtAt w w.heap.size A N.l) (hv:zG N=true) (hT:Tab w) :
  Calls Tryz.prog 122 #[qg N A c] w fun e w'=>e = .returned (.bool (qJ N))∧Below w.heap.size w w':=by
 obtain ⟨hn0,hn1,hl0,hl1⟩:=qN hv;have hfm:=fun k hk=>jn hv k hk;have hnv:=fun W h=>zcL W N A c h hv;have HNV:=zb hnv;clear hnv;obtain ⟨n,l⟩:=N;simp only at hN hn0 hn1 hl0 hl1 hfm;have HF:=zb hfm;clear hfm hv;have hbox:=yQ w ⟨n,l⟩ A c 24 _ rfl;have hbl:Below w.heap.size w (w.alloc (.cells #[.int .i64 n,.slice A l.length c] 24)):=(zx _ _).alloc (zu _) _;have hmk:=mk_nat l.length (by omega);go_enter Tryz.func122, Tryz.ntmps122;go_wp2_with (
  go_at_call 65;(with_reducible refine (HNV.out _ ((hN.below hbl).more hbl.size)).mono ?_);rintro e w6 ⟨g,rfl,hg,hrow6,hb6⟩;have hbox6:=zo hbox hb6;have hbl6:=zw hbl hb6 hbl.size;have hw6:=hbox6.lt;obtain ⟨hc3,hc4⟩:=qy hbox6)
 have hg6:=hrow6.lt;have hout:=natsMade w6 l.length 31 w6.heap.size rfl;have hrow7:=hrow6.alloc (.cells (madeCells #[.string ⟨#[]⟩] l.length) 31);have hbl7:=hbl6.alloc (Nat.le_of_lt hw6) (.cells (madeCells #[.string ⟨#[]⟩] l.length) 31);clear hbox hbl HNV hbox6 hb6 hc3 hc4 hmk hrow6 hbl6;simp at hg;obtain ⟨O,hO⟩:∃ O,own l=O:=⟨_,rfl⟩;have hsh:qJ ⟨n,l⟩=yy O [] l:=by unfold qJ;rw [hO]
 have hOl:O.length=l.length:=by rw [← hO];exact zdt l
 simp only [hO] at hrow7;have HSH:=zb hsh;clear hsh hO;go_loopw [19] (fun t wr=>∃ (k:Nat) (L:List Nat),k≤l.length∧t = .int .i64 k∧L.length=k∧Hid (yy O [] l=yy O L (l.drop k)∧∀ j,L.getD j 0<zR)∧wr.rowIs g 96 (l.length*2) (qe O)∧wr.rowIs w6.heap.size 31 l.length (yv L)∧Below w.heap.size w wr) (fun t _=>l.length-(intOf t).toNat)
 case atStart=>exact ⟨0,[],by omega,rfl,rfl,⟨rfl,fun j=>by simp;exact Nat.lt_trans Nat.zero_lt_one yr⟩,hrow7,hout,hbl7⟩
 case round =>
  clear hrow7 hout hbl7;obtain ⟨k,L,hk,rfl,hLl,HD,hrow,hout,hbl⟩:=hrel;by_cases hlt:k<l.length
  ·obtain ⟨b,o,rfl,hbB,hcs⟩:=hN (by omega);have hnd:=hcs k hlt;clear hcs;have hfk:=HF.out k hlt;have hdr:l.drop k=l[k]::l.drop (k+1):=List.drop_eq_getElem_cons hlt;obtain ⟨x,hx⟩:∃ x,l[k]=x:=⟨_,rfl⟩;rw [hx] at hnd hfk hdr;have hd:yy O [] l=(yp (R1.in1 O L x) (R1.start x) x.ins&&yy O (L++[R1.step O L x]) (l.drop (k+1))):=by
    rw [HD.out.1,hdr];rfl
   have HD2:=zb hd;clear hd;have HDR:=zb hdr;clear hdr hx;have hin:=formed_ins hfk;have HIN:=zb hin;clear hin;obtain ⟨hk1,hk2,⟨A',c',hk3,hrd⟩,hr1,hr2,hr3,hr4⟩:=hnd;replace hk1:=zB hbl hbB hk1;replace hk2:=zB hbl hbB hk2;replace hk3:=zB hbl hbB hk3;have HRD:=zb hrd;clear hrd;obtain ⟨W0,rfl⟩:∃ W0,W0=wr:=⟨wr,rfl⟩;have hz1:=hbl.size;have hz2:=hout.lt;obtain ⟨W1,hW1⟩:∃ W1,W0.alloc (.cells #[.int .i64 x.kind,.int .i64 x.lit,.slice A' x.ins.length c'] 66)=W1:=⟨_,rfl⟩;have hbW:Below w.heap.size w W1:=by rw [← hW1];exact hbl.alloc hz1 _
   have hrW:W1.rowIs g 96 (l.length*2) (qe O):=by rw [← hW1];exact hrow.alloc _
   have hoW:W1.rowIs w6.heap.size 31 l.length (yv L):=by rw [← hW1];exact hout.alloc _
   have hxW:W1.rowIs W0.heap.size 66 3 (fun i=>if i=0 then .int .i64 x.kind else if i=1 then .int .i64 x.lit else .slice A' x.ins.length c'):=by
    rw [← hW1];exact World.rowIs_alloc W0 #[.int .i64 x.kind,.int .i64 x.lit,.slice A' x.ins.length c'] _ _ fun i hi=>by
     have:i=0∨i=1∨i=2:=by simp at hi;omega
     rcases this with rfl | rfl | rfl <;> rfl
   have hzW:W1.heap.size=W0.heap.size+1:=by rw [← hW1];simp
   have HW1:=zb hW1;clear hW1;clear hrow hout hbl;have hof:Calls Tryz.prog 34 #[.int .u64 1] W1 fun e w'=>e = .returned (zN 1)∧Below W1.heap.size W1 w':=zhs W1 1 (by decide);have HOF:=zb hof;clear hof;rcases zb4 hfk with ⟨hkk,hil⟩ | h3 | h4
   ·have HIL:=zb hil;clear hil;have hk5:x.kind=0∨(x.kind=1∨x.kind=2):=by omega
    clear hkk;rcases hk5 with h0 | h12
    ·clear hfk;have b0:(x.kind==0)=true:=beq_iff_eq.2 h0;have b4:(x.kind==4)=false:=beq_eq_false_iff_ne.2 (by omega);have b3:(x.kind==3)=false:=beq_eq_false_iff_ne.2 (by omega);have H3:=zb h0;clear h0;go_wp2_with (
      go_at_call 34;rw [HW1.out];(with_reducible refine HOF.out.mono ?_);rintro e w8 ⟨rfl,hb8⟩;have hrow8:=zo hrW hb8;have hout8:=zo hoW hb8;have hx8:=zo hxW hb8;have hbl8:=zw hbW hb8 hbW.size;have hz8:=hb8.size;have hz9:W0.heap.size<w8.heap.size:=by omega
      have hx80:w8.cell? ⟨W0.heap.size,0,none⟩=some (.int .i64 x.kind):=hx8.cell (i:=0) (by omega);have hx82:w8.cell? ⟨W0.heap.size,2,none⟩=some (.slice A' x.ins.length c'):=hx8.cell (i:=2) (by omega))
     have hst:R1.start x=0:=by unfold Rg.start;rw [if_neg (by rw [H3.out];decide),if_neg (by rw [H3.out];decide)];rfl
     have hs0:(w8.alloc (.cells #[.string ⟨#[]⟩] 31)).rowIs w8.heap.size 31 1 (fun _=>.string (za 0)):=by
      rw [pP];exact qF w8 (.string ⟨#[]⟩) 31 w8.heap.size rfl
     have hrow0:=hrow8.alloc (.cells #[.string ⟨#[]⟩] 31);have hout0:=hout8.alloc (.cells #[.string ⟨#[]⟩] 31);have hx0:=hx8.alloc (.cells #[.string ⟨#[]⟩] 31);have hbl0:=hbl8.alloc hbl8.size (.cells #[.string ⟨#[]⟩] 31);rw [hst] at HD2;have HST:=zb hst;clear hst;clear hrow8 hout8 hx8 hbl8 hx80 hx82 hrW hoW hxW hbW hb8 HOF HW1 hk1 hk2 hk3;go_loopw [37] (fun t wq=>∃ m s:Nat,m≤x.ins.length∧t = .int .i64 m∧Hid (yp (R1.in1 O L x) 0 x.ins=yp (R1.in1 O L x) s (x.ins.drop m)∧s<zR∧(x.ins.take m).foldl (R1.in1 O L x) 0=s) ∧
       wq.rowIs w8.heap.size 31 1 (fun _=>.string (za s))∧wq.rowIs W0.heap.size 66 3 (fun i=>if i=0 then .int .i64 x.kind else if i=1 then .int .i64 x.lit else .slice A' x.ins.length c') ∧
       wq.rowIs g 96 (l.length*2) (qe O)∧wq.rowIs w6.heap.size 31 l.length (yv L)∧Below w.heap.size w wq) (fun t _=>x.ins.length-(intOf t).toNat)
     case atStart=>exact ⟨0,0,by omega,rfl,⟨rfl,Nat.lt_trans Nat.zero_lt_one yr,rfl⟩,hs0,hx0,hrow0,hout0,hbl0⟩
     case round =>
      clear hs0 hx0 hrow0 hout0 hbl0;obtain ⟨m,s,hm,rfl,HP,hs,hx,hrow,hout,hbl⟩:=hrel;have hx80:wr.cell? ⟨W0.heap.size,0,none⟩=some (.int .i64 x.kind):=hx.cell (i:=0) (by omega);have hs1:=zV hs;have hs2:=hs.frozen 0;have hz:=hs.lt;by_cases hmlt:m<x.ins.length
      ·have hil:=HIL.out;omega
      ·obtain rfl:m=x.ins.length:=by omega
       have hp:=HP.out;rw [List.drop_length,List.take_length] at hp;obtain ⟨hp1,hp2,hp3⟩:=hp;have hd:=HD2.out;rw [hp1] at hd
       change _=yy O (L++[R1.step O L x]) (l.drop (k+1)) at hd
       have hst:R1.step O L x=s:=by unfold Rg.step;rw [HST.out,hp3]
       rw [hst] at hd;have HD3:=zb hd;have HP2:=zb hp2;have hc4:=hout.cell (i:=k) (by omega);have hc5:=hout.frozen k;have hi3:(0:Int)≤(k:Int):=by omega
       have hi4:(k:Int)<(l.length:Int):=by omega
       clear hp1 hp2 hp3 hd hst;go_wp2;go_roundw
       case rel =>
        refine ⟨k+1,L++[s],by omega,by go_num,by simp [hLl],⟨HD3.out,fun j=>?_⟩,hrow.setOther (by simp;omega) _,ze0 hout k s hLl.symm,hbl.setCell (by simp;omega) _⟩;rw [jm];split
        ·exact HP2.out
        ·exact HD.out.2 j
       case measure=>simp [intOf];omega
    ·clear hfk;have b0:(x.kind==0)=false:=beq_eq_false_iff_ne.2 (by omega);have b4:(x.kind==4)=false:=beq_eq_false_iff_ne.2 (by omega);have b3:(x.kind==3)=false:=beq_eq_false_iff_ne.2 (by omega);have H3:=zb h12;clear h12;go_wp2_with (
      go_at_call 34;rw [HW1.out];(with_reducible refine HOF.out.mono ?_);rintro e w8 ⟨rfl,hb8⟩;have hrow8:=zo hrW hb8;have hout8:=zo hoW hb8;have hx8:=zo hxW hb8;have hbl8:=zw hbW hb8 hbW.size;have hz8:=hb8.size;have hz9:W0.heap.size<w8.heap.size:=by omega
      have hx80:w8.cell? ⟨W0.heap.size,0,none⟩=some (.int .i64 x.kind):=hx8.cell (i:=0) (by omega);have hx82:w8.cell? ⟨W0.heap.size,2,none⟩=some (.slice A' x.ins.length c'):=hx8.cell (i:=2) (by omega))
     have hst:R1.start x=1:=by
      unfold Rg.start;rcases H3.out with h | h
      ·rw [if_neg (by omega),if_pos (.inl h)];rfl
      ·rw [if_pos h];rfl
     have hs0:=qF w8 (.string (za 1)) 31 w8.heap.size rfl;have hrow0:=hrow8.alloc (.cells #[.string (za 1)] 31);have hout0:=hout8.alloc (.cells #[.string (za 1)] 31);have hx0:=hx8.alloc (.cells #[.string (za 1)] 31);have hbl0:=hbl8.alloc hbl8.size (.cells #[.string (za 1)] 31);rw [hst] at HD2;have HST:=zb hst;clear hst;clear hrow8 hout8 hx8 hbl8 hx80 hx82 hrW hoW hxW hbW hb8 HOF HW1 hk1 hk2 hk3;go_loopw [37] (fun t wq=>∃ m s:Nat,m≤x.ins.length∧t = .int .i64 m∧Hid (yp (R1.in1 O L x) 1 x.ins=yp (R1.in1 O L x) s (x.ins.drop m)∧s<zR∧(x.ins.take m).foldl (R1.in1 O L x) 1=s) ∧
       wq.rowIs w8.heap.size 31 1 (fun _=>.string (za s))∧wq.rowIs W0.heap.size 66 3 (fun i=>if i=0 then .int .i64 x.kind else if i=1 then .int .i64 x.lit else .slice A' x.ins.length c') ∧
       wq.rowIs g 96 (l.length*2) (qe O)∧wq.rowIs w6.heap.size 31 l.length (yv L)∧Below w.heap.size w wq) (fun t _=>x.ins.length-(intOf t).toNat)
     case atStart=>exact ⟨0,1,by omega,rfl,⟨rfl,yr,rfl⟩,hs0,hx0,hrow0,hout0,hbl0⟩
     case round =>
      clear hs0 hx0 hrow0 hout0 hbl0;obtain ⟨m,s,hm,rfl,HP,hs,hx,hrow,hout,hbl⟩:=hrel;have hx80:wr.cell? ⟨W0.heap.size,0,none⟩=some (.int .i64 x.kind):=hx.cell (i:=0) (by omega);have hs1:=zV hs;have hs2:=hs.frozen 0;have hz:=hs.lt;by_cases hmlt:m<x.ins.length
      ·have hil:=HIL.out;omega
      ·obtain rfl:m=x.ins.length:=by omega
       have hp:=HP.out;rw [List.drop_length,List.take_length] at hp;obtain ⟨hp1,hp2,hp3⟩:=hp;have hd:=HD2.out;rw [hp1] at hd
       change _=yy O (L++[R1.step O L x]) (l.drop (k+1)) at hd
       have hst:R1.step O L x=s:=by unfold Rg.step;rw [HST.out,hp3]
       rw [hst] at hd;have HD3:=zb hd;have HP2:=zb hp2;have hc4:=hout.cell (i:=k) (by omega);have hc5:=hout.frozen k;have hi3:(0:Int)≤(k:Int):=by omega
       have hi4:(k:Int)<(l.length:Int):=by omega
       clear hp1 hp2 hp3 hd hst;go_wp2;go_roundw
       case rel =>
        refine ⟨k+1,L++[s],by omega,by go_num,by simp [hLl],⟨HD3.out,fun j=>?_⟩,hrow.setOther (by simp;omega) _,ze0 hout k s hLl.symm,hbl.setCell (by simp;omega) _⟩;rw [jm];split
        ·exact HP2.out
        ·exact HD.out.2 j
       case measure=>simp [intOf];omega
   ·clear hfk;have b0:(x.kind==0)=false:=beq_eq_false_iff_ne.2 (by omega);have b4:(x.kind==4)=false:=beq_eq_false_iff_ne.2 (by omega);have b3:(x.kind==3)=true:=beq_iff_eq.2 h3;have H3:=zb h3;clear h3;go_wp2_with (
     go_at_call 34;rw [HW1.out];(with_reducible refine HOF.out.mono ?_);rintro e w8 ⟨rfl,hb8⟩;have hrow8:=zo hrW hb8;have hout8:=zo hoW hb8;have hx8:=zo hxW hb8;have hbl8:=zw hbW hb8 hbW.size;have hz8:=hb8.size;have hz9:W0.heap.size<w8.heap.size:=by omega
     have hx80:w8.cell? ⟨W0.heap.size,0,none⟩=some (.int .i64 x.kind):=hx8.cell (i:=0) (by omega);have hx82:w8.cell? ⟨W0.heap.size,2,none⟩=some (.slice A' x.ins.length c'):=hx8.cell (i:=2) (by omega))
    have hst:R1.start x=1:=by unfold Rg.start;rw [if_neg (by rw [H3.out];decide),if_pos (.inr H3.out)];rfl
    have hs0:=qF w8 (.string (za 1)) 31 w8.heap.size rfl;have hrow0:=hrow8.alloc (.cells #[.string (za 1)] 31);have hout0:=hout8.alloc (.cells #[.string (za 1)] 31);have hx0:=hx8.alloc (.cells #[.string (za 1)] 31);have hbl0:=hbl8.alloc hbl8.size (.cells #[.string (za 1)] 31);rw [hst] at HD2;have HST:=zb hst;clear hst;clear hrow8 hout8 hx8 hbl8 hx80 hx82 hrW hoW hxW hbW hb8 HOF HW1 hk1 hk2 hk3;go_loopw [37] (fun t wq=>∃ m s:Nat,m≤x.ins.length∧t = .int .i64 m∧Hid (yp (R1.in1 O L x) 1 x.ins=yp (R1.in1 O L x) s (x.ins.drop m)∧s<zR∧(x.ins.take m).foldl (R1.in1 O L x) 1=s) ∧
      wq.rowIs w8.heap.size 31 1 (fun _=>.string (za s))∧wq.rowIs W0.heap.size 66 3 (fun i=>if i=0 then .int .i64 x.kind else if i=1 then .int .i64 x.lit else .slice A' x.ins.length c') ∧
      wq.rowIs g 96 (l.length*2) (qe O)∧wq.rowIs w6.heap.size 31 l.length (yv L)∧Below w.heap.size w wq) (fun t _=>x.ins.length-(intOf t).toNat)
    case atStart=>exact ⟨0,1,by omega,rfl,⟨rfl,yr,rfl⟩,hs0,hx0,hrow0,hout0,hbl0⟩
    case round =>
     clear hs0 hx0 hrow0 hout0 hbl0;obtain ⟨m,s,hm,rfl,HP,hs,hx,hrow,hout,hbl⟩:=hrel;have hx80:wr.cell? ⟨W0.heap.size,0,none⟩=some (.int .i64 x.kind):=hx.cell (i:=0) (by omega);have hs1:=zV hs;have hs2:=hs.frozen 0;have hz:=hs.lt;by_cases hmlt:m<x.ins.length
     ·obtain ⟨b',o',rfl,hbB',hcs⟩:=HRD.out (by omega);have hc:=zB hbl hbB' (hcs m hmlt);clear hcs;unfold zO at hc;obtain ⟨j,hj1,hj2⟩:=HIN.out m hmlt;rw [hj1] at hc;have hdr:x.ins.drop m=(j:Int)::x.ins.drop (m+1):=by
       rw [List.drop_eq_getElem_cons hmlt];congr 1;rw [← hj1];simp [List.getD,hmlt]
      have htk:x.ins.take (m+1)=x.ins.take m++[(j:Int)]:=by
       rw [List.take_succ_eq_append_getElem hmlt];congr 2;rw [← hj1];simp [List.getD,hmlt]
      have hi1:(0:Int)≤(j:Int):=by omega
      have hi2:(j:Int)<(l.length:Int):=by omega
      have hin1:R1.in1 O L x s (j:Int)=s*L.getD j 0:=by unfold Rg.in1;rw [if_pos (.inr H3.out)];rfl
      have hc2:=hout.cell (i:=j) (by omega);unfold yv at hc2;have hgb:=HD.out.2 j;have hfold:(x.ins.take (m+1)).foldl (R1.in1 O L x) 1=s*L.getD j 0:=by rw [htk,List.foldl_append,HP.out.2.2];exact hin1
      have hok:yp (R1.in1 O L x) 1 x.ins=if s*L.getD j 0<zR then yp (R1.in1 O L x) (s*L.getD j 0) (x.ins.drop (m+1)) else false:=by
       rw [HP.out.1,hdr];show (if R1.in1 O L x s (j:Int)<zR then yp _ (R1.in1 O L x s (j:Int)) _ else false)=_;rw [hin1]
      obtain ⟨y,hy⟩:∃ y,L.getD j 0=y:=⟨_,rfl⟩;rw [hy] at hc2 hgb hfold hok;have HOK:=zb hok;have HFO:=zb hfold;have HTK:=zb htk;have hn1:=zdG s HP.out.2.1;have hn2:=zdG y hgb;have hn3:n8 (s*y)≤2000:=by have:=yK s y;omega
      have hq1:n8 s≤1000000:=by omega
      have hq2:n8 y≤1000000:=by omega
      clear hok hfold htk hdr hj1 hin1 hy hgb;have hs':=hs.drew;have hx':=hx.drew;have hrow':=hrow.drew;have hout':=hout.drew;have hbl':Below w.heap.size w wr.drew:=qV hbl 1;go_wp2_with fail
      go_region_law (
       go_simp;go_at_call 33;(with_reducible refine (jP _ s y hq1 hq2).mono ?_);rintro e w9 ⟨rfl,hb9⟩;have hs9:=zo hs' hb9;have hx9:=zo hx' hb9;have hrow9:=zo hrow' hb9;have hout9:=zo hout' hb9;have hbl9:=zw hbl' hb9 hbl'.size;have hs91:=zV hs9;have hs92:=hs9.frozen 0)
      all_goals
       have hs10:=qZ hs9 (.string (za (s*y)));have hx10:=hx9.setOther (a:=⟨w8.heap.size,0,none⟩) (by simp;omega) (.string (za (s*y)));have hrow10:=hrow9.setOther (a:=⟨w8.heap.size,0,none⟩) (by simp;omega) (.string (za (s*y)));have hout10:=hout9.setOther (a:=⟨w8.heap.size,0,none⟩) (by simp;omega) (.string (za (s*y)));have hbl10:=hbl9.setCell (p:=⟨w8.heap.size,0,none⟩) (by simp;omega) (.string (za (s*y)));have hs101:=zV hs10;clear hs9 hx9 hrow9 hout9 hbl9;generalize w9.setCell ⟨w8.heap.size,0,none⟩ (.string (za (s*y)))=w10 at *
       have hq3:n8 (s*y)≤10000000:=by omega
       by_cases hbg:s*y<zR
       ·have hok:=HOK.out;rw [if_pos hbg] at hok;have HOK2:=zb hok;have HBG:=zb hbg;have hlen:¬ (4096:Int)<(nd 2 (s*y):Int):=fun h=>(zgw _).1 h hbg;clear hok hbg;have hlen':(nd 2 (s*y):Int)≤4096:=by omega
        clear hlen;go_wp2_with (
         go_at_call 81;(with_reducible refine (zb7 _ (s*y) hq3).mono ?_);rintro e w11 ⟨rfl,hb11⟩;have hs11:=zo hs10 hb11;have hx11:=zo hx10 hb11;have hrow11:=zo hrow10 hb11;have hout11:=zo hout10 hb11;have hbl11:=zw hbl10 hb11 hbl10.size)
        go_roundw
        case rel =>
         exact ⟨m+1,s*y,by omega,by go_num,⟨HOK2.out,HBG.out,HFO.out⟩,hs11,hx11,hrow11,hout11,hbl11⟩
        case measure=>simp [intOf];omega
       ·have hok:=HOK.out;rw [if_neg hbg] at hok;have HOK2:=zb hok;have hlen:(4096:Int)<(nd 2 (s*y):Int):=(zgw _).2 hbg;clear hok hbg;go_wp2_with (
         go_at_call 81;(with_reducible refine (zb7 _ (s*y) hq3).mono ?_);rintro e w11 ⟨rfl,hb11⟩;have hbl11:=zw hbl10 hb11 hbl10.size)
        go_ret;refine ⟨?_,hbl11⟩;rw [HSH.out,HD2.out,HOK2.out];rfl
     ·obtain rfl:m=x.ins.length:=by omega
      have hp:=HP.out;rw [List.drop_length,List.take_length] at hp;obtain ⟨hp1,hp2,hp3⟩:=hp;have hd:=HD2.out;rw [hp1] at hd
      change _=yy O (L++[R1.step O L x]) (l.drop (k+1)) at hd
      have hst:R1.step O L x=s:=by unfold Rg.step;rw [HST.out,hp3]
      rw [hst] at hd;have HD3:=zb hd;have HP2:=zb hp2;have hc4:=hout.cell (i:=k) (by omega);have hc5:=hout.frozen k;have hi3:(0:Int)≤(k:Int):=by omega
      have hi4:(k:Int)<(l.length:Int):=by omega
      clear hp1 hp2 hp3 hd hst;go_wp2;go_roundw
      case rel =>
       refine ⟨k+1,L++[s],by omega,by go_num,by simp [hLl],⟨HD3.out,fun j=>?_⟩,hrow.setOther (by simp;omega) _,ze0 hout k s hLl.symm,hbl.setCell (by simp;omega) _⟩;rw [jm];split
       ·exact HP2.out
       ·exact HD.out.2 j
      case measure=>simp [intOf];omega
   ·clear hfk;have b0:(x.kind==0)=false:=beq_eq_false_iff_ne.2 (by omega);have b4:(x.kind==4)=true:=beq_iff_eq.2 h4;have b3:(x.kind==3)=false:=beq_eq_false_iff_ne.2 (by omega);have H3:=zb h4;clear h4;go_wp2_with (
     go_at_call 34;rw [HW1.out];(with_reducible refine HOF.out.mono ?_);rintro e w8 ⟨rfl,hb8⟩;have hrow8:=zo hrW hb8;have hout8:=zo hoW hb8;have hx8:=zo hxW hb8;have hbl8:=zw hbW hb8 hbW.size;have hz8:=hb8.size;have hz9:W0.heap.size<w8.heap.size:=by omega
     have hx80:w8.cell? ⟨W0.heap.size,0,none⟩=some (.int .i64 x.kind):=hx8.cell (i:=0) (by omega);have hx82:w8.cell? ⟨W0.heap.size,2,none⟩=some (.slice A' x.ins.length c'):=hx8.cell (i:=2) (by omega))
    have hst:R1.start x=0:=by unfold Rg.start;rw [if_neg (by rw [H3.out];decide),if_neg (by rw [H3.out];decide)];rfl
    have hs0:(w8.alloc (.cells #[.string ⟨#[]⟩] 31)).rowIs w8.heap.size 31 1 (fun _=>.string (za 0)):=by
     rw [pP];exact qF w8 (.string ⟨#[]⟩) 31 w8.heap.size rfl
    have hrow0:=hrow8.alloc (.cells #[.string ⟨#[]⟩] 31);have hout0:=hout8.alloc (.cells #[.string ⟨#[]⟩] 31);have hx0:=hx8.alloc (.cells #[.string ⟨#[]⟩] 31);have hbl0:=hbl8.alloc hbl8.size (.cells #[.string ⟨#[]⟩] 31);rw [hst] at HD2;have HST:=zb hst;clear hst;clear hrow8 hout8 hx8 hbl8 hx80 hx82 hrW hoW hxW hbW hb8 HOF HW1 hk1 hk2 hk3;go_loopw [37] (fun t wq=>∃ m s:Nat,m≤x.ins.length∧t = .int .i64 m∧Hid (yp (R1.in1 O L x) 0 x.ins=yp (R1.in1 O L x) s (x.ins.drop m)∧s<zR∧(x.ins.take m).foldl (R1.in1 O L x) 0=s) ∧
      wq.rowIs w8.heap.size 31 1 (fun _=>.string (za s))∧wq.rowIs W0.heap.size 66 3 (fun i=>if i=0 then .int .i64 x.kind else if i=1 then .int .i64 x.lit else .slice A' x.ins.length c') ∧
      wq.rowIs g 96 (l.length*2) (qe O)∧wq.rowIs w6.heap.size 31 l.length (yv L)∧Below w.heap.size w wq) (fun t _=>x.ins.length-(intOf t).toNat)
    case atStart=>exact ⟨0,0,by omega,rfl,⟨rfl,Nat.lt_trans Nat.zero_lt_one yr,rfl⟩,hs0,hx0,hrow0,hout0,hbl0⟩
    case round =>
     clear hs0 hx0 hrow0 hout0 hbl0;obtain ⟨m,s,hm,rfl,HP,hs,hx,hrow,hout,hbl⟩:=hrel;have hx80:wr.cell? ⟨W0.heap.size,0,none⟩=some (.int .i64 x.kind):=hx.cell (i:=0) (by omega);have hs1:=zV hs;have hs2:=hs.frozen 0;have hz:=hs.lt;by_cases hmlt:m<x.ins.length
     ·obtain ⟨b',o',rfl,hbB',hcs⟩:=HRD.out (by omega);have hc:=zB hbl hbB' (hcs m hmlt);clear hcs;unfold zO at hc;obtain ⟨j,hj1,hj2⟩:=HIN.out m hmlt;rw [hj1] at hc;have hdr:x.ins.drop m=(j:Int)::x.ins.drop (m+1):=by
       rw [List.drop_eq_getElem_cons hmlt];congr 1;rw [← hj1];simp [List.getD,hmlt]
      have htk:x.ins.take (m+1)=x.ins.take m++[(j:Int)]:=by
       rw [List.take_succ_eq_append_getElem hmlt];congr 2;rw [← hj1];simp [List.getD,hmlt]
      have hi1:(0:Int)≤(j:Int):=by omega
      have hi2:(j:Int)<(l.length:Int):=by omega
      have hin1:R1.in1 O L x s (j:Int)=s+L.getD j 0*2^(vl (zP (O.getD k 0) (O.getD j 0))).length:=by
       unfold Rg.in1;rw [if_neg (by rw [H3.out];decide),hLl];show s+R1.gap O L (O.getD k 0) (j:Int).toNat=_;rw [Int.toNat_natCast];unfold Rg.gap;rw [zi8];rfl
      have hvl:=zct (zP (O.getD k 0) (O.getD j 0));have hli:=fun W h=>vlist_rd W (zP (O.getD k 0) (O.getD j 0)) h;obtain ⟨d,hd⟩:∃ d,(vl (zP (O.getD k 0) (O.getD j 0))).length=d:=⟨_,rfl⟩;rw [hd] at hin1 hvl;simp only [hd] at hli;clear hd;have hc2:=hout.cell (i:=j) (by omega);unfold yv at hc2;have hgb:=HD.out.2 j;have hfold:(x.ins.take (m+1)).foldl (R1.in1 O L x) 0=s+L.getD j 0*2^d:=by rw [htk,List.foldl_append,HP.out.2.2];exact hin1
      have hok:yp (R1.in1 O L x) 0 x.ins=if s+L.getD j 0*2^d<zR then yp (R1.in1 O L x) (s+L.getD j 0*2^d) (x.ins.drop (m+1)) else false:=by
       rw [HP.out.1,hdr];show (if R1.in1 O L x s (j:Int)<zR then yp _ (R1.in1 O L x s (j:Int)) _ else false)=_;rw [hin1]
      obtain ⟨y,hy⟩:∃ y,L.getD j 0=y:=⟨_,rfl⟩;rw [hy] at hc2 hgb hfold hok;have HY:=zb hy;have HOK:=zb hok;have HFO:=zb hfold;have HTK:=zb htk;have hn1:=zdG s HP.out.2.1;have hn2:=zdG y hgb;have hnd:n8 (2^d)≤1000:=zdG _ (by rw [zdO];exact Nat.pow_lt_pow_right (by decide) (by rw [zcr];omega));have hny:n8 (y*2^d)≤2000:=by have:=yK y (2^d);omega
      have hn3:n8 (s+y*2^d)≤2002:=by have:=zhy s (y*2^d);omega
      have hq4:n8 (2^d)≤1000000:=by omega
      have hq5:n8 (y*2^d)≤1000000:=by omega
      have hpw:=fun W=>pow2_yes W ((d:Nat):Int) (by omega) (by omega);simp only [Int.toNat_natCast] at hpw;have HPW:=zb hpw;have HLI:=zb hli;obtain ⟨hk5,hk6,_,_⟩:=qE hrow k (by omega);obtain ⟨hk7,hk8,_,_⟩:=qE hrow j (by omega);have hi3:(0:Int)≤(k:Int):=by omega
      have hi4:(k:Int)<(l.length:Int):=by omega
      have hjl:j<l.length:=by omega
      have hne1:w8.heap.size≠w6.heap.size:=by omega
      have hne2:w8.heap.size≠g:=by omega
      have hjk1:j*2+1<l.length*2:=by omega
      have hjk2:k*2+1<l.length*2:=by omega
      have hq1:n8 s≤1000000:=by omega
      have hq2:n8 y≤1000000:=by omega
      obtain ⟨so,hso⟩:∃ so,O.getD k 0=so:=⟨_,rfl⟩;obtain ⟨sj,hsj⟩:∃ sj,O.getD j 0=sj:=⟨_,rfl⟩;rw [hso] at hk5 hk6;rw [hsj] at hk7 hk8;rw [hso,hsj] at HLI;have HSO:=zb hso;have HSJ:=zb hsj;clear hok hfold htk hdr hj1 hin1 hy hgb hpw hli hso hsj;have hs':=hs.drew;have hx':=hx.drew;have hrow':=hrow.drew;have hout':=hout.drew;have hbl':Below w.heap.size w wr.drew:=qV hbl 1;go_wp2_with fail
      have hs91:=zV hs';have hy9:wr.drew.cell? ⟨w6.heap.size,j,none⟩=some (.string (za y)):=(hout'.cell (i:=j) hjl).trans (by unfold yv;rw [HY.out]);obtain ⟨hp5,hp6,_,_⟩:=qE hrow' k hjk2;obtain ⟨hp7,hp8,_,_⟩:=qE hrow' j hjk1;rw [HSO.out] at hp5 hp6;rw [HSJ.out] at hp7 hp8;refine zb8 (fun w'=>w'.cell? ⟨w6.heap.size,j,none⟩=some (.string (za y))∧w'.cell? ⟨g,k*2,none⟩=some (.int .u64 (lo so:Int))∧w'.cell? ⟨g,k*2+1,none⟩=some (.int .u64 (hi so:Int))∧w'.cell? ⟨g,j*2,none⟩=some (.int .u64 (lo sj:Int))∧w'.cell? ⟨g,j*2+1,none⟩=some (.int .u64 (hi sj:Int))∧w'.cell? ⟨w8.heap.size,0,none⟩=some (Value.string (za s))) 19 (by kernel_rfl) ⟨hy9,hp5,hp6,hp7,hp8,hs91⟩ (fun hS=>?_);refine zM 0 (v:=?_) hS rfl (Or.inl ⟨by rfl,?_⟩) ?_;rotate_left
      ·(intro w hSw;go_simp;try with_reducible rfl)
      try simp only [Act.put,zg,zf,ze]
      refine zM 1 (v:=?_) hS rfl (Or.inl ⟨by rfl,?_⟩) ?_;rotate_left
      ·(intro w hSw;go_simp;try with_reducible rfl)
      try simp only [Act.put,zg,zf,ze]
      refine zM 2 (v:=?_) hS rfl (Or.inl ⟨by rfl,?_⟩) ?_;rotate_left
      ·(intro w hSw;go_simp;try with_reducible rfl)
      try simp only [Act.put,zg,zf,ze]
      refine zM 3 (v:=?_) hS rfl (Or.inl ⟨by rfl,?_⟩) ?_;rotate_left
      ·(intro w hSw;go_simp;try with_reducible rfl)
      try simp only [Act.put,zg,zf,ze]
      refine zM 4 (v:=?_) hS rfl (Or.inl ⟨by rfl,?_⟩) ?_;rotate_left
      ·(intro w hSw;go_simp;try with_reducible rfl)
      try simp only [Act.put,zg,zf,ze]
      refine zM 5 (v:=?_) hS rfl (Or.inl ⟨by rfl,?_⟩) ?_;rotate_left
      ·(intro w hSw;go_simp;try with_reducible rfl)
      try simp only [Act.put,zg,zf,ze]
      refine zM 6 (v:=?_) hS rfl (Or.inl ⟨by rfl,?_⟩) ?_;rotate_left
      ·(intro w hSw;go_simp;try with_reducible rfl)
      try simp only [Act.put,zg,zf,ze]
      refine zM 7 (v:=?_) hS rfl (Or.inl ⟨by rfl,?_⟩) ?_;rotate_left
      ·(intro w hSw;go_simp;try with_reducible rfl)
      try simp only [Act.put,zg,zf,ze]
      refine zM 8 (v:=?_) hS rfl (Or.inl ⟨by rfl,?_⟩) ?_;rotate_left
      ·(intro w hSw;go_simp;try with_reducible rfl)
      try simp only [Act.put,zg,zf,ze]
      refine zM 9 (v:=?_) hS rfl (Or.inl ⟨by rfl,?_⟩) ?_;rotate_left
      ·(intro w hSw;go_simp;try with_reducible rfl)
      try simp only [Act.put,zg,zf,ze]
      refine zM 10 (v:=?_) hS rfl (Or.inl ⟨by rfl,?_⟩) ?_;rotate_left
      ·(intro w hSw;go_simp;try with_reducible rfl)
      try simp only [Act.put,zg,zf,ze]
      refine zM 11 (v:=?_) hS rfl (Or.inl ⟨by rfl,?_⟩) ?_;rotate_left
      ·(intro w hSw;go_simp;try with_reducible rfl)
      try simp only [Act.put,zg,zf,ze]
      refine zM 12 (v:=?_) hS rfl (Or.inl ⟨by rfl,?_⟩) ?_;rotate_left
      ·(intro w hSw;go_simp;try with_reducible rfl)
      try simp only [Act.put,zg,zf,ze]
      refine jU 13 (by kernel_rfl) rfl (fun K hK=>?_);go_simp;go_at_call 100;(with_reducible refine (zh1 _ so sj).mono ?_);rintro e w9 ⟨rfl,hb9⟩;replace hs':=zo hs' hb9;replace hx':=zo hx' hb9;replace hrow':=zo hrow' hb9;replace hout':=zo hout' hb9;replace hbl':=zw hbl' hb9 hbl'.size;have hs91:=zV hs';have hs92:=hs'.frozen 0;have hy9:w9.cell? ⟨w6.heap.size,j,none⟩=some (.string (za y)):=(hout'.cell (i:=j) hjl).trans (by unfold yv;rw [HY.out]);obtain ⟨hp5,hp6,_,_⟩:=qE hrow' k hjk2;obtain ⟨hp7,hp8,_,_⟩:=qE hrow' j hjk1;rw [HSO.out] at hp5 hp6;rw [HSJ.out] at hp7 hp8;refine hK.out _ _ (fun _=>⟨hy9,hp5,hp6,hp7,hp8,hs91⟩) (fun hS=>?_);replace hS:=hS (by decide);clear hK K;try simp only [Act.put,zg,zf,ze]
      refine jU 14 (by kernel_rfl) rfl (fun K hK=>?_);go_simp;go_at_call 99;(with_reducible refine (HLI.out _ (hT.below hbl')).mono ?_);rintro e w9 ⟨A9,c9,rfl,_,hb9⟩;replace hs':=zo hs' hb9;replace hx':=zo hx' hb9;replace hrow':=zo hrow' hb9;replace hout':=zo hout' hb9;replace hbl':=zw hbl' hb9 hbl'.size;have hs91:=zV hs';have hs92:=hs'.frozen 0;have hy9:w9.cell? ⟨w6.heap.size,j,none⟩=some (.string (za y)):=(hout'.cell (i:=j) hjl).trans (by unfold yv;rw [HY.out]);obtain ⟨hp5,hp6,_,_⟩:=qE hrow' k hjk2;obtain ⟨hp7,hp8,_,_⟩:=qE hrow' j hjk1;rw [HSO.out] at hp5 hp6;rw [HSJ.out] at hp7 hp8;refine hK.out _ _ (fun _=>⟨hy9,hp5,hp6,hp7,hp8,hs91⟩) (fun hS=>?_);replace hS:=hS (by decide);clear hK K;try simp only [Act.put,zg,zf,ze]
      refine zM 15 (v:=?_) hS rfl (Or.inl ⟨by rfl,?_⟩) ?_;rotate_left
      ·(intro w hSw;go_simp;try with_reducible rfl)
      try simp only [Act.put,zg,zf,ze]
      refine jU 16 (by kernel_rfl) rfl (fun K hK=>?_);go_simp;go_at_call 31;(with_reducible refine (HPW.out _).mono ?_);rintro e w9 ⟨rfl,hb9⟩;replace hs':=zo hs' hb9;replace hx':=zo hx' hb9;replace hrow':=zo hrow' hb9;replace hout':=zo hout' hb9;replace hbl':=zw hbl' hb9 hbl'.size;have hs91:=zV hs';have hs92:=hs'.frozen 0;have hy9:w9.cell? ⟨w6.heap.size,j,none⟩=some (.string (za y)):=(hout'.cell (i:=j) hjl).trans (by unfold yv;rw [HY.out]);obtain ⟨hp5,hp6,_,_⟩:=qE hrow' k hjk2;obtain ⟨hp7,hp8,_,_⟩:=qE hrow' j hjk1;rw [HSO.out] at hp5 hp6;rw [HSJ.out] at hp7 hp8;refine hK.out _ _ (fun _=>⟨hy9,hp5,hp6,hp7,hp8,hs91⟩) (fun hS=>?_);replace hS:=hS (by decide);clear hK K;try simp only [Act.put,zg,zf,ze]
      refine jU 17 (by kernel_rfl) rfl (fun K hK=>?_);go_simp;go_at_call 33;(with_reducible refine (jP _ y (2^d) hq2 hq4).mono ?_);rintro e w9 ⟨rfl,hb9⟩;replace hs':=zo hs' hb9;replace hx':=zo hx' hb9;replace hrow':=zo hrow' hb9;replace hout':=zo hout' hb9;replace hbl':=zw hbl' hb9 hbl'.size;have hs91:=zV hs';have hs92:=hs'.frozen 0;have hy9:w9.cell? ⟨w6.heap.size,j,none⟩=some (.string (za y)):=(hout'.cell (i:=j) hjl).trans (by unfold yv;rw [HY.out]);obtain ⟨hp5,hp6,_,_⟩:=qE hrow' k hjk2;obtain ⟨hp7,hp8,_,_⟩:=qE hrow' j hjk1;rw [HSO.out] at hp5 hp6;rw [HSJ.out] at hp7 hp8;refine hK.out _ _ (fun _=>⟨hy9,hp5,hp6,hp7,hp8,hs91⟩) (fun hS=>?_);replace hS:=hS (by decide);clear hK K;try simp only [Act.put,zg,zf,ze]
      refine jU 18 (by kernel_rfl) rfl (fun K hK=>?_);go_simp;go_at_call 71;(with_reducible refine (oG _ s (y*2^d) hq1 hq5).mono ?_);rintro e w9 ⟨rfl,hb9⟩;replace hs':=zo hs' hb9;replace hx':=zo hx' hb9;replace hrow':=zo hrow' hb9;replace hout':=zo hout' hb9;replace hbl':=zw hbl' hb9 hbl'.size;have hs91:=zV hs';have hs92:=hs'.frozen 0;have hy9:w9.cell? ⟨w6.heap.size,j,none⟩=some (.string (za y)):=(hout'.cell (i:=j) hjl).trans (by unfold yv;rw [HY.out]);obtain ⟨hp5,hp6,_,_⟩:=qE hrow' k hjk2;obtain ⟨hp7,hp8,_,_⟩:=qE hrow' j hjk1;rw [HSO.out] at hp5 hp6;rw [HSJ.out] at hp7 hp8;refine hK.out _ _ (fun _=>⟨hy9,hp5,hp6,hp7,hp8,hs91⟩) (fun hS=>?_);replace hS:=hS (by decide);clear hK K;try simp only [Act.put,zg,zf,ze]
      refine jU 19 (by kernel_rfl) rfl (fun K hK=>?_);go_simp;refine hK.out _ _ (fun h=>absurd rfl h) (fun _=>?_);clear hK K;refine zc1 (by kernel_rfl) ?_ _;all_goals
       have hs10:=qZ hs' (.string (za (s+y*2^d)));have hx10:=hx'.setOther (a:=⟨w8.heap.size,0,none⟩) (by simp;omega) (.string (za (s+y*2^d)));have hrow10:=hrow'.setOther (a:=⟨w8.heap.size,0,none⟩) (by simp;omega) (.string (za (s+y*2^d)));have hout10:=hout'.setOther (a:=⟨w8.heap.size,0,none⟩) (by simp;omega) (.string (za (s+y*2^d)));have hbl10:=hbl'.setCell (p:=⟨w8.heap.size,0,none⟩) (by simp;omega) (.string (za (s+y*2^d)));have hs101:=zV hs10;clear hs' hx' hrow' hout' hbl';generalize w9.setCell ⟨w8.heap.size,0,none⟩ (.string (za (s+y*2^d)))=w10 at *
       have hq3:n8 (s+y*2^d)≤10000000:=by omega
       by_cases hbg:s+y*2^d<zR
       ·have hok:=HOK.out;rw [if_pos hbg] at hok;have HOK2:=zb hok;have HBG:=zb hbg;have hlen:¬ (4096:Int)<(nd 2 (s+y*2^d):Int):=fun h=>(zgw _).1 h hbg;clear hok hbg;have hlen':(nd 2 (s+y*2^d):Int)≤4096:=by omega
        clear hlen;go_wp2_with (
         go_at_call 81;(with_reducible refine (zb7 _ (s+y*2^d) hq3).mono ?_);rintro e w11 ⟨rfl,hb11⟩;have hs11:=zo hs10 hb11;have hx11:=zo hx10 hb11;have hrow11:=zo hrow10 hb11;have hout11:=zo hout10 hb11;have hbl11:=zw hbl10 hb11 hbl10.size)
        go_roundw
        case rel =>
         exact ⟨m+1,s+y*2^d,by omega,by go_num,⟨HOK2.out,HBG.out,HFO.out⟩,hs11,hx11,hrow11,hout11,hbl11⟩
        case measure=>simp [intOf];omega
       ·have hok:=HOK.out;rw [if_neg hbg] at hok;have HOK2:=zb hok;have hlen:(4096:Int)<(nd 2 (s+y*2^d):Int):=(zgw _).2 hbg;clear hok hbg;go_wp2_with (
         go_at_call 81;(with_reducible refine (zb7 _ (s+y*2^d) hq3).mono ?_);rintro e w11 ⟨rfl,hb11⟩;have hbl11:=zw hbl10 hb11 hbl10.size)
        go_ret;refine ⟨?_,hbl11⟩;rw [HSH.out,HD2.out,HOK2.out];rfl
     ·obtain rfl:m=x.ins.length:=by omega
      have hp:=HP.out;rw [List.drop_length,List.take_length] at hp;obtain ⟨hp1,hp2,hp3⟩:=hp;have hd:=HD2.out;rw [hp1] at hd
      change _=yy O (L++[R1.step O L x]) (l.drop (k+1)) at hd
      have hst:R1.step O L x=s:=by unfold Rg.step;rw [HST.out,hp3]
      rw [hst] at hd;have HD3:=zb hd;have HP2:=zb hp2;have hc4:=hout.cell (i:=k) (by omega);have hc5:=hout.frozen k;have hi3:(0:Int)≤(k:Int):=by omega
      have hi4:(k:Int)<(l.length:Int):=by omega
      clear hp1 hp2 hp3 hd hst;go_wp2;go_roundw
      case rel =>
       refine ⟨k+1,L++[s],by omega,by go_num,by simp [hLl],⟨HD3.out,fun j=>?_⟩,hrow.setOther (by simp;omega) _,ze0 hout k s hLl.symm,hbl.setCell (by simp;omega) _⟩;rw [jm];split
       ·exact HP2.out
       ·exact HD.out.2 j
      case measure=>simp [intOf];omega
  ·obtain rfl:k=l.length:=by omega
   have hd:=HD.out.1;rw [List.drop_length] at hd;have HD2:=zb hd;clear hd;go_wp2;go_ret;refine ⟨?_,hbl⟩;rw [HSH.out,HD2.out];rfl
end Go.Proofs.YtmhllppjcilllaaGreatDoor
