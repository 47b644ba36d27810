import Derived.Test.YtmhllppjcilllaaGreatDoorRB
import Derived.Test.YtmhllppjcilllaaGreatDoorRP
import Derived.Test.YtmhllppjcilllaaGreatDoorQ1
set_option linter.unusedSimpArgs false
set_option linter.unusedVariables false
set_option maxRecDepth 100000
set_option maxHeartbeats 4000000
section
section
open Go Go.RowKit Cs
namespace Cs
def vlk (s k:Nat):List Int:=((List.range k).filter fun i=>s.testBit i).map fun i:Nat=>(i:Int)+1
theorem p9 (s k:Nat):vlk s (k+1)=if s.testBit k then vlk s k++[(k:Int)+1] else vlk s k:=by
 unfold vlk;rw [List.range_succ,List.filter_append,List.map_append];split
 ·rename_i h;simp [h]
 ·rename_i h;simp [h]
theorem vlk_len (s k:Nat):(vlk s k).length≤k:=by
 unfold vlk;rw [List.length_map];have:=List.length_filter_le (fun i=>s.testBit i) (List.range k);simpa using this
theorem vlk_vl (s:Nat):vlk s 128=vl s:=by
 rw [zjL];unfold vlk zgW;rw [List.map_map];rfl
theorem zgA (x e n:Nat) (h:x<2^e) (he:e≤n) (hn:1≤n):zz x≤n :=
 zec _ _ (Nat.lt_of_lt_of_le h (Nat.le_trans (Nat.pow_le_pow_right (by decide) he) (Nat.pow_le_pow_left (by decide) _))) hn
theorem zfg (x:Nat) (h:x<zR*2^200):zz x≤10000000 :=
 zgA x (jq+200) 10000000 (by rw [Nat.pow_add,← zdO];exact h) (by rw [zcr];decide) (by decide)
end Cs
end
section
open Go Go.RowKit Cs
namespace Go.Proofs.YtmhllppjcilllaaGreatDoor
theorem zjc {w:World} {B g n:Nat} {O:List Nat} (h:Rd w B (some ⟨g,0,none⟩) (n*2) (qe O)) (k:Nat) (hk:k<n):w.cell? ⟨g,k*2,none⟩=some (.int .u64 (lo (O.getD k 0):Int))∧w.cell? ⟨g,k*2+1,none⟩=some (.int .u64 (hi (O.getD k 0):Int)):=by
 obtain ⟨b,o,e,_,hc⟩:=h (by omega);injection e with e;injection e with e1 e2 _;subst e1;subst e2;refine ⟨?_,?_⟩
 ·have h1:=hc (k*2) (by omega);rw [Nat.zero_add] at h1;rw [h1];unfold qe;rw [if_pos (by omega),show k*2 / 2=k by omega]
 ·have h1:=hc (k*2+1) (by omega);rw [Nat.zero_add] at h1;rw [h1];unfold qe;rw [if_neg (by omega),show (k*2+1) / 2=k by omega]
def ndF (x:Nd) (A:Option Addr) (c:Nat) (i:Nat):Value:=if i=0 then .int .i64 x.kind else if i=1 then .int .i64 x.lit else .slice A x.ins.length c
theorem ndNew (w:World) (x:Nd) (A:Option Addr) (c:Nat) (t:TypeId) (g:Nat) (hg:w.heap.size=g):(w.alloc (.cells #[.int .i64 x.kind,.int .i64 x.lit,.slice A x.ins.length c] t)).rowIs g t 3 (ndF x A c):=by
 subst hg;exact World.rowIs_alloc w _ t (ndF x A c) fun i hi=>by
  have:i=0∨i=1∨i=2:=by simp at hi;omega
  rcases this with rfl | rfl | rfl <;> rfl
theorem zeX {w:World} {g:Nat} {t:TypeId} {x:Nd} {A:Option Addr} {c:Nat} (h:w.rowIs g t 3 (ndF x A c)) :
  w.cell? ⟨g,0,none⟩=some (.int .i64 x.kind)∧w.cell? ⟨g,1,none⟩=some (.int .i64 x.lit)∧w.cell? ⟨g,2,none⟩=some (.slice A x.ins.length c):=⟨h.cell (i:=0) (by omega),h.cell (i:=1) (by omega),h.cell (i:=2) (by omega)⟩
theorem zhu {W W':World} {x:Nd} {A:Option Addr} {c:Nat} {t:TypeId} {a1 a2:Int} (h:W'=W.alloc (.cells #[.int .i64 a1,.int .i64 a2,.slice A x.ins.length c] t)) (h1:a1=x.kind) (h2:a2=x.lit):W'.rowIs W.heap.size t 3 (ndF x A c):=by
 subst h;subst h1;subst h2;exact ndNew W x A c t _ rfl
end Go.Proofs.YtmhllppjcilllaaGreatDoor
end
end
section
section
open Go Go.RowKit Cs
namespace Go.Proofs.YtmhllppjcilllaaGreatDoor
theorem zdp (w:World) (V:Nat) (hV:zz V≤10000000):Calls Tryz.prog 161 #[.string (zc V)] w fun e w'=>e = .returned (.bool (decide (V<zR)))∧Below w.heap.size w w':=by
 have hsz:=qS V;have hbz:=qS zR;rw [zdL] at hbz;have jp:=zjx V zR;rw [zdL] at jp;have hpw:∀ W,Calls Tryz.prog 163 #[.int .i64 4096] W fun e w'=>e = .returned (.string (zc zR))∧Below W.heap.size W w':=fun W=>by
  have h:=zhj W jq (by rw [zcr];decide);rw [← zdO,show ((jq:Nat):Int)=4096 by rw [zcr];rfl] at h;exact h
 have hlt:zz V<1234→V<zR:=fun h=>by
  rcases Nat.lt_or_ge V zR with h1 | h1
  ·exact h1
  ·have:=oU h1;rw [zdL] at this;omega
 have hgt:1234<zz V→¬ V<zR:=fun h h1=>by
  have:=oU (Nat.le_of_lt h1);rw [zdL] at this;omega
 obtain ⟨B,hB⟩:∃ B,decide (V<zR)=B:=⟨_,rfl⟩;rw [hB] at jp ⊢;have HLT:zz V<1234→B=true:=fun h=>by rw [← hB,decide_eq_true (hlt h)]
 have HGT:1234<zz V→B=false:=fun h=>by rw [← hB,decide_eq_false (hgt h)]
 obtain ⟨s,hs⟩:∃ s,zc V=s:=⟨_,rfl⟩;obtain ⟨t,ht⟩:∃ t,zc zR=t:=⟨_,rfl⟩;rw [hs] at hsz jp ⊢;simp only [ht] at hbz jp hpw;clear hlt hgt hB hs ht;rw [← hsz] at jp HLT HGT hV;clear hsz;have HPW:=zb hpw;clear hpw;rcases Nat.lt_trichotomy s.size 1234 with h | h | h
 ·obtain rfl:=HLT h;have h1:¬ ((s.size:Int)=1234):=by omega
  have h2:(s.size:Int)<1234:=by omega
  clear jp HLT HGT;go_enter Tryz.func161, Tryz.ntmps161;go_wp2;go_ret;exact ⟨rfl,zx _ _⟩
 ·have h1:(s.size:Int)=1234:=by omega
  have h3:=jp h;rw [← ByteArray.toList_eq,← ByteArray.toList_eq] at h3;have h4:s.size=t.size:=by omega
  have H3:=zb h3;have H4:=zb h4;clear jp HLT HGT h3 h4 h;cases B
  ·go_enter Tryz.func161, Tryz.ntmps161;go_wp2_with fail
   refine (HPW.out _).mono ?_;rintro e w5 ⟨rfl,hb5⟩;go_wp2_with fail
   refine (rcmp_ge w5 s t H4.out H3.out).mono ?_;rintro e w6 ⟨x,hx,hx2,rfl,rfl⟩;have hx3:decide (x<0)=false:=decide_eq_false (by omega);go_wp2;go_ret;exact ⟨rfl,hb5⟩
  ·go_enter Tryz.func161, Tryz.ntmps161;go_wp2_with fail
   refine (HPW.out _).mono ?_;rintro e w5 ⟨rfl,hb5⟩;go_wp2_with fail
   refine (gz w5 s t H4.out H3.out).mono ?_;rintro e w6 ⟨rfl,rfl⟩;go_wp2;go_ret;exact ⟨rfl,hb5⟩
 ·obtain rfl:=HGT h;have h1:¬ ((s.size:Int)=1234):=by omega
  have h2:¬ (s.size:Int)<1234:=by omega
  clear jp HLT HGT;go_enter Tryz.func161, Tryz.ntmps161;go_wp2;go_ret;exact ⟨rfl,zx _ _⟩
end Go.Proofs.YtmhllppjcilllaaGreatDoor
end
section
open Go Go.RowKit Cs
namespace Cs
theorem or_zero (a b:Nat):a ||| b=0↔a=0∧b=0:=by
 constructor
 ·intro h;have h1:a≤a ||| b:=Nat.left_le_or
  have h2:b≤a ||| b:=Nat.right_le_or
  omega
 ·rintro ⟨rfl,rfl⟩;rfl
def qX (O:List Nat) (ks:List Int) (a:Nat):Nat:=O.getD (ks.getD a 0).toNat 0
theorem zhL (O:List Nat):∀ (ks:List Int) (s:Nat),apart O s ks=true↔(∀ a,a<ks.length→s &&& qX O ks a=0)∧∀ a,a<ks.length→∀ b,b<a→qX O ks a &&& qX O ks b=0
 | [],s=>by simp [apart]
 | k::ks,s=>by
   unfold apart;have ih:=zhL O ks (s ||| O.getD k.toNat 0);have e0:qX O (k::ks) 0=O.getD k.toNat 0:=rfl;have es:∀ a,qX O (k::ks) (a+1)=qX O ks a:=fun a=>rfl;constructor
   ·intro h;split at h
    ·rename_i h0;obtain ⟨h1,h2⟩:=ih.1 h;have h3:∀ a,a<ks.length→s &&& qX O ks a=0∧O.getD k.toNat 0 &&& qX O ks a=0:=fun a ha=>by
      have:=h1 a ha;rw [Nat.and_or_distrib_right] at this;exact (or_zero _ _).1 this
     refine ⟨fun a ha=>?_,fun a ha b hb=>?_⟩
     ·match a with
      | 0=>rw [e0];exact h0
      | a+1=>rw [es];exact (h3 a (by simp at ha;omega)).1
     ·match a with
      | 0=>omega
      | a+1 =>
        match b with
        | 0=>rw [es,e0,Nat.and_comm];exact (h3 a (by simp at ha;omega)).2
        | b+1=>rw [es,es];exact h2 a (by simp at ha;omega) b (by omega)
    ·cases h
   ·rintro ⟨h1,h2⟩;have h0:=h1 0 (by simp);rw [e0] at h0;rw [if_pos h0];refine ih.2 ⟨fun a ha=>?_,fun a ha b hb=>?_⟩
    ·rw [Nat.and_or_distrib_right];have h3:=h1 (a+1) (by simp;omega);have h4:=h2 (a+1) (by simp;omega) 0 (by omega);rw [es] at h3 h4;rw [e0,Nat.and_comm] at h4;exact (or_zero _ _).2 ⟨h3,h4⟩
    ·have h4:=h2 (a+1) (by simp;omega) (b+1) (by omega);rw [es,es] at h4;exact h4
theorem zfh (O:List Nat):∀ (l:List Nd),yD O l=true↔∀ k (hk:k<l.length),l[k].kind=3→∀ a,a<l[k].ins.length→∀ b,b<a→qX O l[k].ins a &&& qX O l[k].ins b=0
 | []=>by simp [yD]
 | x::xs=>by
   have ih:=zfh O xs;unfold yD;have h0:apart O 0 x.ins=true↔∀ a,a<x.ins.length→∀ b,b<a→qX O x.ins a &&& qX O x.ins b=0:=by
    rw [zhL];exact ⟨fun h=>h.2,fun h=>⟨fun a _=>Nat.zero_and _,h⟩⟩
   constructor
   ·intro h k hk h3
    match k,hk,h3 with
    | 0,hk,h3 =>
      simp only [zh] at h3 ⊢;rw [if_pos h3,Bool.and_eq_true] at h;exact h0.1 h.1
    | k+1,hk,h3 =>
      simp only [zi] at h3 ⊢;have h5:yD O xs=true:=by
       split at h
       ·rw [Bool.and_eq_true] at h;exact h.2
       ·exact h
      exact ih.1 h5 k (by simp at hk;omega) h3
   ·intro h;have h5:yD O xs=true:=ih.2 fun k hk h3=>by
     have:=h (k+1) (by simp;omega);simp only [zi] at this;exact this h3
    split
    ·rename_i h3;rw [Bool.and_eq_true];have:=h 0 (by simp);simp only [zh] at this;exact ⟨h0.2 (this h3),h5⟩
    ·exact h5
theorem and_sets (a b:Nat) (ha:qD a):a &&& b=0↔lo a &&& lo b=0∧hi a &&& hi b=0:=by
 rw [← lo_and,← hi_and];constructor
 ·intro h;rw [h];exact ⟨rfl,rfl⟩
 ·rintro ⟨h1,h2⟩;have:=set_eq _ (zh6 (b:=b) ha);rw [h1,h2] at this;omega
theorem po {l:List Nd} {n:Int} {O:List Nat} (hO:own l=O) (h:∀ k (hk:k<l.length),l[k].kind=3→∀ a,a<l[k].ins.length→∀ b,b<a→qX O l[k].ins a &&& qX O l[k].ins b=0):qt ⟨n,l⟩=true:=by
 unfold qt;rw [show own (Nt.mk n l).l=O from hO];exact (zfh O l).2 h
theorem zky {l:List Nd} {n:Int} {O:List Nat} (hO:own l=O) {k a b:Nat} {x:Nd} (hk:k<l.length) (hx:l[k]=x) (h3:x.kind=3) (ha:a<x.ins.length) (hb:b<a) (h:qX O x.ins a &&& qX O x.ins b≠0):qt ⟨n,l⟩=false:=by
 cases hd:qt ⟨n,l⟩
 ·rfl
 ·unfold qt at hd;rw [show own (Nt.mk n l).l=O from hO] at hd;have:=(zfh O l).1 hd k hk (by rw [hx];exact h3) a (by rw [hx];exact ha) b hb;rw [hx] at this;exact absurd this h
end Cs
namespace Go.Proofs.YtmhllppjcilllaaGreatDoor
theorem j4 (W:World) (a b:Nat) (t:TypeId) :
  ((W.alloc (.cells #[.int .u64 (lo a:Int),.int .u64 (hi a:Int)] t)).alloc (.cells #[.int .u64 (lo b:Int),.int .u64 (hi b:Int)] t)).drew.cell? ⟨W.heap.size,0,none⟩=some (.int .u64 (lo a:Int)) ∧
  ((W.alloc (.cells #[.int .u64 (lo a:Int),.int .u64 (hi a:Int)] t)).alloc (.cells #[.int .u64 (lo b:Int),.int .u64 (hi b:Int)] t)).drew.cell? ⟨W.heap.size,1,none⟩=some (.int .u64 (hi a:Int)) ∧
  ((W.alloc (.cells #[.int .u64 (lo a:Int),.int .u64 (hi a:Int)] t)).alloc (.cells #[.int .u64 (lo b:Int),.int .u64 (hi b:Int)] t)).drew.cell? ⟨W.heap.size+1,0,none⟩=some (.int .u64 (lo b:Int)) ∧
  ((W.alloc (.cells #[.int .u64 (lo a:Int),.int .u64 (hi a:Int)] t)).alloc (.cells #[.int .u64 (lo b:Int),.int .u64 (hi b:Int)] t)).drew.cell? ⟨W.heap.size+1,1,none⟩=some (.int .u64 (hi b:Int)):=by
 have r1:=((jQ W (.int .u64 (lo a:Int)) (.int .u64 (hi a:Int)) t _ rfl).alloc (.cells #[.int .u64 (lo b:Int),.int .u64 (hi b:Int)] t)).drew;have r2:=(jQ (W.alloc (.cells #[.int .u64 (lo a:Int),.int .u64 (hi a:Int)] t)) (.int .u64 (lo b:Int)) (.int .u64 (hi b:Int)) t (W.heap.size+1) (by simp)).drew;exact ⟨r1.cell (i:=0) (by decide),r1.cell (i:=1) (by decide),r2.cell (i:=0) (by decide),r2.cell (i:=1) (by decide)⟩
theorem zkh (w:World) (N:Nt) (A:Option Addr) (c:Nat) (hN:NtAt w w.heap.size A N.l) (hv:zG N=true) :
  Calls Tryz.prog 125 #[qg N A c] w fun e w'=>e = .returned (.bool (qt N))∧Below w.heap.size w w':=by
 obtain ⟨hn0,hn1,hl0,hl1⟩:=qN hv;have hfm:=fun k hk=>jn hv k hk;have hva:=fun W h=>zhh W N A c h hv;obtain ⟨n,l⟩:=N;simp only at hN hn0 hn1 hl0 hl1 hfm hva;have hol:=zdt l;have hos:∀ j,qD ((own l).getD j 0):=zgt l;obtain ⟨O,hO⟩:∃ O,own l=O:=⟨_,rfl⟩;rw [hO] at hol hos;simp only [hO] at hva;have hdt:=fun h=>po (n:=n) hO h;have hdf:=fun k a b x hk hx h3 ha hb h=>zky (n:=n) (k:=k) (a:=a) (b:=b) (x:=x) hO hk hx h3 ha hb h;obtain ⟨D,hD⟩:∃ D,qt ⟨n,l⟩=D:=⟨_,rfl⟩;simp only [hD] at hdt hdf;rw [hD];have HDT:=zb hdt;have HDF:=zb hdf;have HFM:=zb hfm;have HVA:=zb hva;have HOL:=zb hol;have HOS:=zb hos;clear hfm hva hol hv hO hos hdt hdf hD;have hbox:=yQ w ⟨n,l⟩ A c 24 _ rfl;have hbl:Below w.heap.size w (w.alloc (.cells #[.int .i64 n,.slice A l.length c] 24)):=(zx _ _).alloc (zu _) _;go_enter Tryz.func125, Tryz.ntmps125;go_wp2_with fail
 refine (HVA.out _ ((hN.below hbl).more hbl.size)).mono ?_;rintro e w5 ⟨g,cg,rfl,hgg,hvr,hb5⟩;replace hbox:=zo hbox hb5;replace hb5:=zw hbl hb5 hbl.size;have hz5:w.heap.size<w5.heap.size:=hbox.lt;have hgv:g<w5.heap.size:=by
  obtain ⟨bz,oz,ez,hz,_⟩:=hvr (by omega);injection ez with ez;injection ez with ez _;omega
 have HB5:=zb hb5;have HBOX:=zb hbox;have HVR:=zb hvr;clear hb5 HVA hbl hvr hgg hbox;go_wp2;go_loopw [4] (fun t wr=>∃ (k:Nat),k≤l.length∧t = .int .i64 k∧Hid (∀ k' (hk:k'<l.length),k'<k→l[k'].kind=3→∀ a,a<l[k'].ins.length→∀ b,b<a→qX O l[k'].ins a &&& qX O l[k'].ins b=0)∧Below w5.heap.size w5 wr) (fun t _=>l.length-(intOf t).toNat)
 case atStart=>exact ⟨0,by omega,rfl,zb (fun k' _ h=>absurd h (by omega)),zx _ _⟩
 case round =>
  obtain ⟨k,hk,rfl,HP,hE⟩:=hrel;obtain ⟨hn1',hn2'⟩:=qy (zo HBOX.out hE);have hz6:=hE.size;by_cases hlt:k<l.length
  ·obtain ⟨b0,o0,rfl,hbB,hcs⟩:=hN (by omega);have hnd:=hcs k hlt;clear hcs;have hfk:=HFM.out k hlt;obtain ⟨x,hx⟩:∃ x,l[k]=x:=⟨_,rfl⟩;rw [hx] at hnd hfk;have HX:=zb hx;have HIN:=zb (formed_ins hfk);clear hfk hx;obtain ⟨hk1,hk2,⟨A',c',hk3,hrd⟩,hr1,hr2,hr3,hr4⟩:=hnd;have HK1:=zb hk1;have HK3:=zb hk3;have HRD:=zb hrd;clear hrd hk1 hk2 hk3;have hi0:(0:Int)≤(k:Int):=by omega
   have hi1:(k:Int)<(l.length:Int):=by omega
   obtain ⟨W0,rfl⟩:∃ W0,W0=wr:=⟨wr,rfl⟩;go_wp2_with fail
   go_loopw [5] (fun t wr=>∃ (a:Nat),a≤x.ins.length∧t = .int .i64 a∧Hid (x.kind=3→∀ a',a'<a→∀ b,b<a'→qX O x.ins a' &&& qX O x.ins b=0)∧Below w5.heap.size w5 wr) (fun t _=>x.ins.length-(intOf t).toNat)
   case atStart=>exact ⟨0,by omega,rfl,zb (fun _ a' h=>absurd h (by omega)),hE⟩
   case round =>
    clear hE hn1' hn2' hz6;obtain ⟨a,ha,rfl,HQ,hE⟩:=hrel;obtain ⟨hn1',hn2'⟩:=qy (zo HBOX.out hE);have hz6:=hE.size;have hb0:Below w.heap.size w wr:=HB5.out.trans (hE.mono (Nat.le_of_lt hz5));have hk1:=zB hb0 hbB HK1.out;have hk3:=zB hb0 hbB HK3.out;by_cases hal:a<x.ins.length
    ·have ha1:(a:Int)<(x.ins.length:Int):=by omega
     by_cases h3:x.kind=3
     ·rw [h3] at hk1;have H3:=zb h3;go_wp2_with fail
      clear hk1 hk3 hn1' hn2' hb0;go_loopw [6] (fun t wr=>∃ (b:Nat),b≤a∧t = .int .i64 b∧Hid (∀ b',b'<b→qX O x.ins a &&& qX O x.ins b'=0)∧Below w5.heap.size w5 wr) (fun t _=>a-(intOf t).toNat)
      case atStart=>exact ⟨0,by omega,rfl,zb (fun b' h=>absurd h (by omega)),hE⟩
      case round =>
       clear hE hz6;obtain ⟨b,hb,rfl,HR,hE⟩:=hrel;obtain ⟨hn1',hn2'⟩:=qy (zo HBOX.out hE);have hz6:=hE.size;have hb0:Below w.heap.size w wr:=HB5.out.trans (hE.mono (Nat.le_of_lt hz5));have hk3:=zB hb0 hbB HK3.out;by_cases hbl:b<a
       ·obtain ⟨b',o',rfl,hbB',hcs⟩:=HRD.out (by omega);have hca:=zB hb0 hbB' (hcs a (by omega));have hcb:=zB hb0 hbB' (hcs b (by omega));clear hcs;unfold zO at hca hcb;obtain ⟨i,hi1',hi2⟩:=HIN.out a (by omega);obtain ⟨j,hj1',hj2⟩:=HIN.out b (by omega);have hsi:qX O x.ins a=O.getD i 0:=by unfold qX;rw [hi1'];rfl
        have hsj:qX O x.ins b=O.getD j 0:=by unfold qX;rw [hj1'];rfl
        rw [hi1'] at hca;rw [hj1'] at hcb;have hvr1:=HVR.out.below hE;obtain ⟨s1,s2⟩:=zjc hvr1 i (by omega);obtain ⟨s3,s4⟩:=zjc hvr1 j (by omega);have hsS:=HOS.out i;obtain ⟨si,hSi⟩:∃ z,O.getD i 0=z:=⟨_,rfl⟩;obtain ⟨sj,hSj⟩:∃ z,O.getD j 0=z:=⟨_,rfl⟩;rw [hSi] at s1 s2 hsi hsS;rw [hSj] at s3 s4 hsj;have gZ:=and_sets si sj hsS;have hu1:=u64_and_nat (lo si) (lo sj) (yO si) (yO sj);have hu2:=u64_and_nat (hi si) (hi sj) (yN si) (yN sj);obtain ⟨p,hp⟩:∃ p,lo si &&& lo sj=p:=⟨_,rfl⟩;obtain ⟨q,hq⟩:∃ p,hi si &&& hi sj=p:=⟨_,rfl⟩;rw [hp] at hu1 gZ;rw [hq] at hu2 gZ;have HSI:=zb hsi;have HSJ:=zb hsj;have HAS:=zb gZ;have i0:(0:Int)≤(i:Int):=by omega
        have i1:(i:Int)<(l.length:Int):=by omega
        have j0:(0:Int)≤(j:Int):=by omega
        have j1:(j:Int)<(l.length:Int):=by omega
        have a0:(0:Int)≤(a:Int):=by omega
        have b1:(b:Int)<(x.ins.length:Int):=by omega
        have b2:(b:Int)<(a:Int):=by omega
        have b0':(0:Int)≤(b:Int):=by omega
        clear hi1' hj1' hSi hSj hsS gZ hp hq hsi hsj hvr1;go_wp2_with fail
        go_cut [7,8] from 43 to 67 (fun pa pb wx=>∃ ga gb,pa = .pointer (some ⟨ga,0,none⟩)∧pb = .pointer (some ⟨gb,0,none⟩)∧wx.cell? ⟨ga,0,none⟩=some (.int .u64 (lo si:Int))∧wx.cell? ⟨ga,1,none⟩=some (.int .u64 (hi si:Int))∧wx.cell? ⟨gb,0,none⟩=some (.int .u64 (lo sj:Int))∧wx.cell? ⟨gb,1,none⟩=some (.int .u64 (hi sj:Int))∧Below w5.heap.size w5 wx)
        case first =>
         have d1:wr.drew.cell? ⟨w.heap.size,1,none⟩=some (.slice (some ⟨b0,o0,none⟩) l.length c):=hn2';have d2:wr.drew.cell? ⟨b0,o0+k*3+2,none⟩=some (.slice (some ⟨b',o',none⟩) x.ins.length c'):=hk3;have d3:wr.drew.cell? ⟨b',o'+a,none⟩=some (.int .i64 (i:Int)):=hca;have d4:wr.drew.cell? ⟨b',o'+b,none⟩=some (.int .i64 (j:Int)):=hcb;have d5:wr.drew.cell? ⟨g,i*2,none⟩=some (.int .u64 (lo si:Int)):=s1;have d6:wr.drew.cell? ⟨g,i*2+1,none⟩=some (.int .u64 (hi si:Int)):=s2;have d7:wr.drew.cell? ⟨g,j*2,none⟩=some (.int .u64 (lo sj:Int)):=s3;have d8:wr.drew.cell? ⟨g,j*2+1,none⟩=some (.int .u64 (hi sj:Int)):=s4;go_region_held3 (fun w'=>w'.cell? ⟨w.heap.size,1,none⟩=some (.slice (some ⟨b0,o0,none⟩) l.length c)∧w'.cell? ⟨b0,o0+k*3+2,none⟩=some (.slice (some ⟨b',o',none⟩) x.ins.length c')∧w'.cell? ⟨b',o'+a,none⟩=some (.int .i64 (i:Int))∧w'.cell? ⟨b',o'+b,none⟩=some (.int .i64 (j:Int))∧w'.cell? ⟨g,i*2,none⟩=some (.int .u64 (lo si:Int))∧w'.cell? ⟨g,i*2+1,none⟩=some (.int .u64 (hi si:Int))∧w'.cell? ⟨g,j*2,none⟩=some (.int .u64 (lo sj:Int))∧w'.cell? ⟨g,j*2+1,none⟩=some (.int .u64 (hi sj:Int)))
          (first | exact ⟨d1,d2,d3,d4,d5,d6,d7,d8⟩ | go_keep) (fail)
         all_goals
          try go_wp2
          go_meet
          case rel =>
           first
            | (obtain ⟨m1,m2,m3,m4⟩:=j4 wr si sj 96
               exact ⟨_,_,rfl,rfl,m1,m2,m3,m4,qV ((hE.alloc hz6 _).alloc (by simp;omega) _) 1⟩)
            | (obtain ⟨m1,m2,m3,m4⟩:=j4 wr sj si 96
               exact ⟨_,_,rfl,rfl,m3,m4,m1,m2,qV ((hE.alloc hz6 _).alloc (by simp;omega) _) 1⟩)
        case rest =>
         obtain ⟨ga,gb,rfl,rfl,m1,m2,m3,m4,hE'⟩:=hcut;have hbw:Below w.heap.size w wc:=HB5.out.trans (hE'.mono (Nat.le_of_lt hz5));have HBW:=zb hbw;clear s1 s2 s3 s4 hn1' hn2' hk3 hca hcb hb0 hz6 hbw hE;by_cases hp0:p=0
         ·subst hp0;by_cases hq0:q=0
          ·subst hq0;go_wp2;go_roundw
           case rel =>
            refine ⟨b+1,by omega,by go_num,zb (fun b' hb'=>?_),hE'⟩;rcases Nat.lt_or_ge b' b with h | h
            ·exact HR.out b' h
            ·obtain rfl:b'=b:=by omega
             rw [HSI.out,HSJ.out];exact HAS.out.2 ⟨rfl,rfl⟩
           case measure=>simp [intOf];omega
          ·have hq1:¬ (q:Int)=0:=by omega
           have hD:=HDF.out k a b x hlt HX.out H3.out hal hbl (by rw [HSI.out,HSJ.out];exact fun h=>hq0 (HAS.out.1 h).2);subst hD;go_wp2;go_ret;exact ⟨rfl,HBW.out⟩
         ·have hp1:¬ (p:Int)=0:=by omega
          have hD:=HDF.out k a b x hlt HX.out H3.out hal hbl (by rw [HSI.out,HSJ.out];exact fun h=>hp0 (HAS.out.1 h).1);subst hD;go_wp2;go_ret;exact ⟨rfl,HBW.out⟩
       ·obtain rfl:b=a:=by omega
        go_wp2;go_roundw
        case rel =>
         refine ⟨b+1,by omega,by go_num,zb (fun h3 a' ha' b' hb'=>?_),hE⟩;rcases Nat.lt_or_ge a' b with h | h
         ·exact HQ.out h3 a' h b' hb'
         ·obtain rfl:a'=b:=by omega
          exact HR.out b' hb'
        case measure=>simp [intOf];omega
     ·have HN3:=zb h3;go_wp2_with fail
      go_roundw
      case rel =>
       refine ⟨k+1,by omega,by go_num,zb (fun k' hk' hlt' h=>?_),hE⟩;rcases Nat.lt_or_ge k' k with h4 | h4
       ·exact HP.out k' hk' h4 h
       ·obtain rfl:k'=k:=by omega
        rw [HX.out] at h;exact absurd h h3
      case measure=>simp [intOf];omega
    ·obtain rfl:a=x.ins.length:=by omega
     go_wp2_with fail
     go_roundw
     case rel =>
      refine ⟨k+1,by omega,by go_num,zb (fun k' hk' hlt' h=>?_),hE⟩;rcases Nat.lt_or_ge k' k with h4 | h4
      ·exact HP.out k' hk' h4 h
      ·obtain rfl:k'=k:=by omega
       rw [HX.out] at h ⊢;exact HQ.out h
     case measure=>simp [intOf];omega
  ·obtain rfl:k=l.length:=by omega
   have hD:=HDT.out (fun k' hk' h3=>HP.out k' hk' hk' h3);subst hD;have hbw:Below w.heap.size w wr:=HB5.out.trans (hE.mono (Nat.le_of_lt hz5));clear hlt hE;go_wp2;go_ret;exact ⟨rfl,hbw⟩
end Go.Proofs.YtmhllppjcilllaaGreatDoor
end
end
