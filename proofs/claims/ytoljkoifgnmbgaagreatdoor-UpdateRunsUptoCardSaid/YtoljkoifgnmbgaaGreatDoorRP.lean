import Derived.Test.YtoljkoifgnmbgaaGreatDoorN1
import Derived.Test.YtoljkoifgnmbgaaGreatDoorM1
import Derived.Test.YtoljkoifgnmbgaaGreatDoorB1
import Derived.Test.YtoljkoifgnmbgaaGreatDoorS1
import Derived.Deep.CutRange
import Derived.Test.YtoljkoifgnmbgaaGreatDoorQ1
set_option linter.unusedSimpArgs false
set_option linter.unusedVariables false
set_option maxRecDepth 100000
set_option maxHeartbeats 2000000
section
section
open Go Go.RowKit Cs
namespace Cs
def dgs (V n:Nat):List Value:=(List.range n).map fun i=>.int .u8 ((48+dg 10 V i:Nat):Int)
theorem dgs_succ (V n:Nat):dgs V (n+1)=dgs V n++[.int .u8 ((48+dg 10 V n:Nat):Int)]:=by simp [dgs,List.range_succ]
theorem dgs_get (V n j:Nat) (h:j<n):(dgs V n)[j]?=some (.int .u8 ((48+dg 10 V j:Nat):Int)):=by simp [dgs,h]
end Cs
end
section
section
open Go Go.RowKit Cs
namespace Go.Proofs.YtoljkoifgnmbgaaGreatDoor
theorem zbx (w:World) (V i:Nat) (hV:zB V≤1000000000) (hi:i≤1000000000):Calls Tryz.prog 145 #[.string (zj V),.int .i64 i] w fun e w'=>e = .returned (.int .i64 (dg 10 V i))∧w=w':=by
 have hs:=qO V;have hn:=gu V;by_cases h:zB V≤i
 ·have hd:dg 10 V i=0:=jl 10 V i (by decide) (by omega);rw [hd];have ht:((zj V).size:Int)≤(i:Int):=by omega
  have HS:=za hs;clear hs hd hn;go_enter Tryz.func145, Tryz.ntmps145;go_wp2;go_ret;exact ⟨rfl,rfl⟩
 ·have HG:Hid (∀ j (h:j<(zj V).size),((zj V)[j]'h).toNat=48+dg 10 V (zB V-1-j)):=fun j h=>zcC V j h;obtain ⟨s,hse⟩:∃ s,s=zj V:=⟨_,rfl⟩;rw [← hse] at hs HG ⊢;clear hse;have hlt:=y9 V i;obtain ⟨n,hn'⟩:∃ n,n=zB V:=⟨_,rfl⟩;rw [← hn'] at hs HG h hV;have hsz:s.size≤1000000000:=by omega
  have ht:¬ (s.size:Int)≤(i:Int):=by omega
  have hk1:(0:Int)≤(s.size:Int)-1-i:=by omega
  have hk2:(s.size:Int)-1-i<s.size:=by omega
  have hk3:s.size-1-i<s.size:=by omega
  have hg:=HG.out _ hk3;rw [show n-1-(s.size-1-i)=i by omega] at hg;have HK:=za hg;clear hg;clear hs hn' hn;go_enter Tryz.func145, Tryz.ntmps145;go_wp2;go_ret;exact ⟨zhh (by rw [HK.out];omega),rfl⟩
def yA (V i:Nat):Value:=.int .i64 ((dg 10 V i:Nat):Int)
theorem rmk_u8 (n:Nat) (h:n≤1000000000) (u:World):(Instr.makeSlice 158 (.int .i64 0) (.int .i64 (n:Int))).run Tryz.prog u =
  .ok (.slice (some ⟨u.heap.size,0,none⟩) 0 n) (u.alloc (.cells (madeCells #[.int .u8 0] n) 5)):=by
 obtain ⟨i0,hi,hz0,hz1,hz2⟩:=info_parts ze4;have hr:=run_make (P:=Tryz.prog) u 158 5 i0 _ Tryz.underlying158 hi hz0 .i64 .i64 0 n (by omega) (by omega) (by rw [hz2];omega) (by omega);simp only [Int.toNat_natCast,hz1,Nat.mul_one] at hr;exact hr
theorem pI (V n m:Nat) (hV:nd 10 V≤n) (hm:m≤n) (h1:1≤m) (hz:∀ i,m≤i→i<n→dg 10 V i=0) (h:m=1∨dg 10 V (m-1)≠0):m=zB V:=by
 have h2:nd 10 V≤m:=by
  rcases Nat.lt_or_ge m (nd 10 V) with hlt | hge
  ·have hp:0<V:=by
    rcases Nat.eq_zero_or_pos V with h' | h'
    ·rw [h',zbT] at hlt;omega
    ·exact h'
   have:=zk0 10 V (by decide) hp;rw [hz _ (by omega) (by omega)] at this;omega
  ·exact hge
 unfold zB;rcases h with h | h
 ·omega
 ·rcases Nat.lt_or_ge (m-1) (nd 10 V) with h3 | h3
  ·omega
  ·exact absurd (jl 10 V _ (by decide) h3) h
def xH (V m:Nat):List Value:=(List.range m).map fun t=>.int .u8 ((48+dg 10 V (zB V-1-t):Nat):Int)
theorem xG (V m:Nat):xH V (m+1)=xH V m++[.int .u8 ((48+dg 10 V (zB V-1-m):Nat):Int)]:=by simp [xH,List.range_succ]
theorem topd_str (V:Nat):strOfNums ((List.range (zB V)).map fun t=>((48+dg 10 V (zB V-1-t):Nat):Int))=zj V:=by
 unfold strOfNums zj zlB;rw [List.map_map];rfl
theorem conv_dec (w:World) (g cap V base:Nat) (h:w.ownsRow base 5 1 (.slice (some ⟨g,0,none⟩) (zB V) cap) (zB V) (xH V (zB V))) :
  (convert 158 9 (.slice (some ⟨g,0,none⟩) (zB V) cap)).run Tryz.prog w = .ok (.string (zj V)) w:=by
 rw [← topd_str V];refine run_convert_bytes_arg (P:=Tryz.prog) w 158 5 Tryz.underlying158 Tryz.underlying5 g 0 (zB V) cap ((List.range (zB V)).map fun t=>((48+dg 10 V (zB V-1-t):Nat):Int)) (by simp)
  (fun i hi=>?_) 9 Tryz.underlying9
 rw [Nat.zero_add];refine zdv h ?_;simp [xH,hi]
theorem zd3 (w:World) (A:Addr) (n cap V:Nat) (hn0:1≤n) (hn:n≤100000000) (hV:nd 10 V≤n) (hA:Rd w w.heap.size (some A) n (yA V)) :
  Calls Tryz.prog 148 #[.slice (some A) n cap] w fun e w'=>e = .returned (.string (zj V))∧Below w.heap.size w w':=by
 obtain ⟨ti,hi,hz0,hz1,hz2⟩:=info_parts ze4;obtain ⟨b,o,hA1,hbl,hc⟩:=hA (by omega);cases hA1
 have HC:=za hc;clear hc hA;have HV:=za hV;clear hV;go_enter Tryz.func148, Tryz.ntmps148;go_wp2
 go_loop [3] (fun t=>∃ m:Nat,1≤m∧m≤n∧t = .int .i64 m∧Hid (∀ i,m≤i→i<n→dg 10 V i=0)) (fun t=>(intOf t).toNat)
 case atStart=>exact ⟨n,hn0,zi _,rfl,fun i h1 h2=>by omega⟩
 case round =>
  obtain ⟨m,hm1,hm,rfl,hz⟩:=hrel;have hc:=HC.out (m-1) (by omega);unfold yA at hc;have fin:=pI V n m HV.out hm hm1 hz.out;have Hfin:=za fin;clear fin;by_cases h:1<m∧dg 10 V (m-1)=0
  ·obtain ⟨h1,h0⟩:=h;have hb1:((dg 10 V (m-1):Int)==0)=true:=by simp [h0]
   have HB:=za h0;clear h0;have i0:(0:Int)≤(m:Int)-1:=by omega
   have i1:(m:Int)-1<(n:Int):=by omega
   go_wp2
   go_round
   case rel =>
    refine ⟨m-1,by omega,by omega,by go_num,fun i hi1 hi2=>?_⟩;rcases Nat.eq_or_lt_of_le hi1 with e | e
    ·rw [← e];exact HB.out
    ·exact hz.out i (by omega) hi2
   case measure=>simp [intOf];omega
  ·have hm':m=zB V:=Hfin.out (by omega);have hmk:=rmk_u8 m (by omega);have HM:=za hm';clear hm';have hd10:dg 10 V (m-1)<10:=y9 _ _;have HD:=za hc;clear hc Hfin;have hown:(w.alloc (.cells (madeCells #[.int .u8 0] m) 5)).ownsRow w.heap.size 5 1 (.slice (some ⟨w.heap.size,0,none⟩) 0 m) 0 []:=World.ownsRow_made w _ m (zi _) (by unfold maxLen;omega) (by simp [madeCells]);rcases Nat.lt_or_ge 1 m with h1 | h1
   all_goals (first
    | (have hb1:((dg 10 V (m-1):Int)==0)=false:=beq_eq_false_iff_ne.2 (by omega)
       have hc:=HD.out;have i0:(0:Int)≤(m:Int)-1:=by omega
       have i1:(m:Int)-1<(n:Int):=by omega
       clear h;go_wp2)
    | (clear h;go_wp2))
   all_goals
    clear h1;go_loopw [4,5] (fun out i wr=>∃ k:Nat,k≤m∧i = .int .i64 ((m:Int)-1-k)∧wr.ownsRow w.heap.size 5 1 out k (xH V k)∧Below w.heap.size w wr) (fun _ i _=>(intOf i+1).toNat)
    case atStart=>exact ⟨0,by omega,by simp,hown,(zA _ _).alloc (zi _) _⟩
    case round =>
     clear hown;obtain ⟨k,hk,rfl,hown,hbel⟩:=hrel;have hszw:=hbel.size;rcases Nat.lt_or_ge k m with hlt | hge
     ·have hck:=HC.out (m-1-k) (by omega);unfold yA at hck;have hck':=zF hbel hbl hck;have j0:(0:Int)≤(m:Int)-1-k:=by omega
      have j1:(m:Int)-1-k<(n:Int):=by omega
      have hd10:dg 10 V (m-1-k)<10:=y9 _ _;have hlt0:∀ k,u4.ownBlock=some k→w.heap.size≤k:=fun k hk=>(hown.lt k hk).1;clear hck;go_wp2_with (at_builtin;go_loud (refine wpList_append_own _ rfl _ _ 158 rfl w.heap.size 5 ti (.int .u8 0) 1 1 Tryz.underlying158 hi hz0 hz1 hz2 rfl (by decide) _ _ _ rfl (hown.alloc _) ⟨wr.heap.size,0,none⟩ 1 1 [.int .u8 (48+(dg 10 V (m-1-k):Int))] rfl rfl qR zcL (by unfold maxLen;omega) (by omega) (by simp;omega) ?_;intro v' w3 hown3 hgr3 _))
      have hbel3:=(hbel.alloc hbel.size _).grown hgr3 (by have:=hbel.size;simp;omega) (fun k e=>hlt0 k e);have e1:(48:Int)+(dg 10 V (m-1-k):Int)=((48+dg 10 V (zB V-1-k):Nat):Int):=by rw [← HM.out];simp
      rw [e1,← xG] at hown3;go_wp2;go_roundw
      case rel=>exact ⟨k+1,by omega,by go_num,hown3,hbel3⟩
      case measure=>simp [intOf];omega
     ·obtain rfl:k=m:=by omega
      obtain ⟨go',cp,rfl,hgo1,hgo2⟩:=yO hown (by omega);have hcv:(convert 158 9 (.slice (some ⟨go',0,none⟩) k cp)).run Tryz.prog wr = .ok (.string (zj V)) wr:=by
       have h1:=HM.out;rw [h1] at hown ⊢;exact conv_dec wr go' cp V _ hown
      have hk0:((k:Int)==0)=false:=beq_eq_false_iff_ne.2 (by omega);go_wp2;go_ret;exact ⟨rfl,hbel⟩
end Go.Proofs.YtoljkoifgnmbgaaGreatDoor
end
section
open Go Go.RowKit Cs
namespace Go.Proofs.YtoljkoifgnmbgaaGreatDoor
def dgi (V n:Nat):List Value:=(List.range n).map (yA V)
theorem zfg (V n:Nat):dgi V (n+1)=dgi V n++[.int .i64 ((dg 10 V n:Nat):Int)]:=by simp [dgi,yA,List.range_succ]
theorem zj0 (V n j:Nat) (h:j<n):(dgi V n)[j]?=some (yA V j):=by simp [dgi,h]
theorem zdV (w:World) (a b:Nat) (ha:zB a≤10000000) (hb:zB b≤10000000) :
  Calls Tryz.prog 120 #[.string (zj a),.string (zj b)] w fun e w'=>e = .returned (.string (zj (a+b)))∧Below w.heap.size w w':=by
 obtain ⟨ti,hi,hz0,hz1,hz2⟩:=info_parts zd2;have hsa:=qO a;have hsb:=qO b;have hna:=gu a;have hnb:=gu b;have h1a:=zce a;have hda:=fun W i hi=>zbx W a i (by omega) hi;have hdb:=fun W i hi=>zbx W b i (by omega) hi;have hfm:=fun W A n cap h0 h1 h2 h3=>zd3 W A n cap (a+b) h0 h1 h2 h3;obtain ⟨sa,hsa'⟩:∃ s,s=zj a:=⟨_,rfl⟩;obtain ⟨sb,hsb'⟩:∃ s,s=zj b:=⟨_,rfl⟩;rw [← hsa'] at hsa hda ⊢;rw [← hsb'] at hsb hdb ⊢;clear hsa' hsb';have HDA:=za hda;have HDB:=za hdb;have HF:=za hfm;clear hda hdb hfm;have hza:sa.size≤10000000:=by omega
 have hzb:sb.size≤10000000:=by omega
 have hz1a:1≤sa.size:=by omega
 have hna':nd 10 a≤sa.size:=by omega
 have hnb':nd 10 b≤sb.size:=by omega
 clear ha hb hsa hsb hna hnb h1a;go_enter Tryz.func120, Tryz.ntmps120;go_wp2;go_loopw [5,6,7] (fun l c i wr=>∃ k:Nat,k≤max sa.size sb.size+1∧i = .int .i64 k∧c = .int .i64 (yu a b k)∧Hid (k=max sa.size sb.size+1→yu a b k=0)∧wr.ownsRow w.heap.size 3 1 l k (dgi (a+b) k)∧Below w.heap.size w wr)
  (fun _ _ i _=>20000002-(intOf i).toNat)
 case atStart=>exact ⟨0,by omega,rfl,by rw [cry_zero];rfl,fun h=>by omega,World.ownsRow_nil _ _ _ _,zA _ _⟩
 case round =>
  obtain ⟨k,hk,rfl,rfl,hend,hown,hbel⟩:=hrel;have hszw:=hbel.size;have hc1:=cry_le a b k;have da:=y9 a k;have db:=y9 b k;have hdg:=cry_dg a b k;have hcs:=zk8 a b k;have HDG:=za hdg;have HCS:=za hcs;clear hdg hcs;have hlt0:∀ k,u5.ownBlock=some k→w.heap.size≤k:=fun k hk=>(hown.lt k hk).1;by_cases hgo:k<sa.size∨k<sb.size∨0<yu a b k
  ·have hkm:k≤max sa.size sb.size:=by
    rcases Nat.lt_or_ge (max sa.size sb.size) k with h | h
    ·have:=hend.out (by omega);omega
    ·exact h
   have hend':Hid (k+1=max sa.size sb.size+1→yu a b (k+1)=0):=fun h=>cry_ge a b k (by omega) (by omega);have X1:Hid (((dg 10 a k:Int)+(dg 10 b k:Int)+(yu a b k:Int))%10=((dg 10 (a+b) k:Nat):Int)):=by
    have:=HDG.out;show _=_;omega
   have X2:Hid (((dg 10 a k:Int)+(dg 10 b k:Int)+(yu a b k:Int)) / 10=((yu a b (k+1):Nat):Int)):=by
    have:=HCS.out;show _=_;omega
   rcases Nat.lt_or_ge k sa.size with h1 | h1
   all_goals (try rcases Nat.lt_or_ge k sb.size with h2 | h2)
   all_goals (try (have h3:0<yu a b k:=by omega))
   all_goals clear hgo
   all_goals
    go_wp2_with (first
     | (go_at_call 145;(with_reducible refine (HDA.out _ k (by omega)).mono ?_);rintro e w' ⟨rfl,rfl⟩)
     | (go_at_call 145;(with_reducible refine (HDB.out _ k (by omega)).mono ?_);rintro e w' ⟨rfl,rfl⟩)
     | (at_builtin;go_loud (refine wpList_append_own _ rfl _ _ 52 rfl w.heap.size 3 ti (.int .i64 0) 1 8 Tryz.underlying52 hi hz0 hz1 hz2 rfl (by decide) _ _ _ rfl (hown.alloc _) ⟨wr.heap.size,0,none⟩ 1 1 [.int .i64 (((dg 10 a k:Int)+(dg 10 b k:Int)+(yu a b k:Int))%10)] rfl rfl qR zcL (by unfold maxLen;omega) (by omega) (by simp;omega) ?_;intro v' w3 hown3 hgr3 _)))
    have hbel3:=(hbel.alloc hbel.size _).grown hgr3 (by simp;omega) (fun k e=>hlt0 k e);rw [X1.out,← zfg] at hown3;go_roundw
    case rel=>exact ⟨k+1,by omega,by go_num,by rw [X2.out],hend',hown3,hbel3⟩
    case measure=>simp [intOf];omega
  ·have h1:sa.size≤k:=by omega
   have h2:sb.size≤k:=by omega
   have h3:yu a b k=0:=by omega
   have hnd:nd 10 (a+b)≤k:=cry_end a b k (by omega) (by omega) h3;have h4:¬ 0<(yu a b k:Int):=by omega
   obtain ⟨go',cp,rfl,hgo1,hgo2⟩:=yO hown (by omega);have hrd:Rd wr wr.heap.size (some ⟨go',0,none⟩) k (yA (a+b)):=Rd.of_own hown fun i hi=>zj0 _ _ _ hi;have HR:=za hrd;have hk2:k≤10000001:=by omega
   have hk1:1≤k:=by omega
   clear hgo h3 hrd hown;go_wp2_with (go_at_call 148;(with_reducible refine (HF.out _ _ k cp hk1 (by omega) hnd HR.out).mono ?_);rintro e w' ⟨rfl,hb9⟩)
   go_ret;exact ⟨rfl,zu hbel hb9 hszw⟩
end Go.Proofs.YtoljkoifgnmbgaaGreatDoor
end
end
section
section
open Go Go.RowKit Cs
namespace Go.Proofs.YtoljkoifgnmbgaaGreatDoor
theorem zje (n:Nat) (h:n≤1000000000) (u:World):(Instr.makeSlice 52 (.int .i64 (n:Int)) (.int .i64 (n:Int))).run Tryz.prog u =
  .ok (.slice (some ⟨u.heap.size,0,none⟩) n n) (u.alloc (.cells (madeCells #[.int .i64 0] n) 3)):=by
 obtain ⟨i0,hi,hz0,hz1,hz2⟩:=info_parts zd2;exact run_make_row 52 3 i0 (.int .i64 0) Tryz.underlying52 hi hz0 hz1 rfl .i64 .i64 n (by rw [hz2];omega) (by omega) u
def mxF (T P m j:Nat):Value:=.int .i64 ((mxd T P m j:Nat):Int)
theorem zbK (w:World) (a b:Nat) (ha:zB a≤10000000) (hb:zB b≤10000000) :
  Calls Tryz.prog 102 #[.string (zj a),.string (zj b)] w fun e w'=>e = .returned (.string (zj (a*b)))∧Below w.heap.size w w':=by
 have hsa:=qO a;have hsb:=qO b;have hna:=gu a;have hnb:=gu b;have hda:=fun W i hi=>zbx W a i (by omega) hi;have hdb:=fun W i hi=>zbx W b i (by omega) hi;have hfm:=fun W A n cap h0 h1 h2 h3=>zd3 W A n cap (a*b) h0 h1 h2 h3;obtain ⟨sa,hsa'⟩:∃ s,s=zj a:=⟨_,rfl⟩;obtain ⟨sb,hsb'⟩:∃ s,s=zj b:=⟨_,rfl⟩;rw [← hsa'] at hsa hda ⊢;rw [← hsb'] at hsb hdb ⊢;clear hsa' hsb';have HDA:=za hda;have HDB:=za hdb;have HF:=za hfm;clear hda hdb hfm;have hza:sa.size≤10000000:=by omega
 have hzb:sb.size≤10000000:=by omega
 have hna':nd 10 a≤sa.size:=by omega
 have hnb':nd 10 b≤sb.size:=by omega
 clear ha hb hsa hsb hna hnb;have hmk:=zje (sa.size+sb.size+1) (by omega);rw [Int.natCast_add,Int.natCast_add,Int.natCast_one] at hmk;go_enter Tryz.func102, Tryz.ntmps102;go_wp2;go_loopw [6] (fun t wr=>∃ i:Nat,i≤sa.size∧t = .int .i64 i∧wr.rowIs w.heap.size 3 (sa.size+sb.size+1) (yA (mP a b i))∧Below w.heap.size w wr) (fun t _=>sa.size-(intOf t).toNat)
 case atStart =>
  refine ⟨0,by omega,rfl,jz _ _ _ _ _ rfl (fun i _=>?_),(zA _ _).alloc (zi _) _⟩;unfold yA;rw [mP_zero];simp [dg]
 case round =>
  obtain ⟨i,hi,rfl,hrow,hbel⟩:=hrel;by_cases hlt:i<sa.size
  ·obtain ⟨d,hd⟩:∃ d,dg 10 a i=d:=⟨_,rfl⟩;have hd9:d≤9:=by have:=y9 a i;omega
   obtain ⟨P,hP⟩:∃ P,mP a b i=P:=⟨_,rfl⟩;have hPs:=ou a b i;have hend:=mP_mc a b i sb.size hnb';rw [hP,hd] at hend hPs;rw [hP] at hrow;have HD:=za hd;have HPS:=za hPs;have HEND:=za hend;clear hd hP hPs hend;have hrow0:wr.rowIs w.heap.size 3 (sa.size+sb.size+1) (mxF (mT P d b i 0) P (i+0)):=hrow.congr fun j _=>by unfold mxF yA;rw [mxd_zero]
   clear hrow;obtain ⟨W0,rfl⟩:∃ W0,W0=wr:=⟨wr,rfl⟩;go_wp2;go_loopw [7,8] (fun c t wq=>∃ k:Nat,k≤sb.size+1∧t = .int .i64 k∧c = .int .i64 (mc P d b i k)∧Hid (k=sb.size+1→mc P d b i k=0)∧wq.rowIs w.heap.size 3 (sa.size+sb.size+1) (mxF (mT P d b i k) P (i+k))∧Below w.heap.size w wq) (fun _ t _=>sb.size+1-(intOf t).toNat)
   case atStart=>exact ⟨0,by omega,rfl,by rw [mc_zero];rfl,fun h=>by omega,hrow0,hbel⟩
   case round =>
    clear hrow0 hbel;obtain ⟨k,hk,rfl,rfl,hke,hrow,hbel⟩:=hrel;have hc9:=mc_le P d b i k hd9;by_cases hgo:k<sb.size∨0<mc P d b i k
    ·have hkm:k≤sb.size:=by
      rcases Nat.lt_or_ge sb.size k with h | h
      ·have:=hke.out (by omega);omega
      ·exact h
     have hke':Hid (k+1=sb.size+1→mc P d b i (k+1)=0):=fun h=>by
      have e:k=sb.size:=by omega
      rw [e];exact HEND.out
     have hcell:=hrow.cell (i:=i+k) (by omega);have hfr:=hrow.frozen (i+k);unfold mxF at hcell;rw [mxd_here] at hcell;obtain ⟨p,hp⟩:∃ p,dg 10 P (i+k)=p:=⟨_,rfl⟩;obtain ⟨e,he⟩:∃ e,dg 10 b k=e:=⟨_,rfl⟩;have hp9:p≤9:=by have:=y9 P (i+k);omega
     have he9:e≤9:=by have:=y9 b k;omega
     have hq81:d*e≤81:=Nat.mul_le_mul hd9 he9;have hsucc:=mc_succ P d b i k;have hnext:=fun j=>mxd_succ P d b i k j;rw [hp,he] at hsucc;simp only [hp,he] at hnext;rw [hp] at hcell;obtain ⟨c,hc⟩:∃ c,mc P d b i k=c:=⟨_,rfl⟩;rw [hc] at hsucc hc9 hgo ⊢;simp only [hc] at hnext;obtain ⟨q,hq⟩:∃ q,d*e=q:=⟨_,rfl⟩;rw [hq] at hsucc hq81;simp only [hq] at hnext;have hmul:IntKind.i64.wrap ((d:Int)*(e:Int))=(q:Int):=by
      rw [← Int.natCast_mul,hq,IntKind.wrap_i64];omega
     have X1:Hid (((p:Int)+(q:Int)+(c:Int))%10=(((p+q+c)%10:Nat):Int)):=by show _=_;omega
     have X2:Hid (((p:Int)+(q:Int)+(c:Int)) / 10=((mc P d b i (k+1):Nat):Int)):=by rw [← hsucc];show _=_;omega
     have HNX:=za hnext;have HDA':Hid (∀ W,Calls Tryz.prog 145 #[.string sa,.int .i64 i] W fun e w'=>e = .returned (.int .i64 d)∧W=w'):=fun W=>by
      have:=HDA.out W i (by omega);rw [HD.out] at this;exact this
     have HDB':Hid (∀ W,Calls Tryz.prog 145 #[.string sb,.int .i64 k] W fun e' w'=>e' = .returned (.int .i64 e)∧W=w'):=fun W=>by
      have:=HDB.out W k (by omega);rw [he] at this;exact this
     clear hnext hsucc hc hq he hp;have hik1:(0:Int)≤(i:Int)+(k:Int):=by omega
     have hik2:(i:Int)+(k:Int)<(sa.size:Int)+(sb.size:Int)+1:=by omega
     have hik3:i+k<sa.size+sb.size+1:=by omega
     have hwr:IntKind.i64.wrap ((i:Int)+(k:Int))=(i:Int)+(k:Int):=by rw [IntKind.wrap_i64];omega
     have htn:((i:Int)+(k:Int)).toNat=i+k:=by omega
     rcases Nat.lt_or_ge k sb.size with h1 | h1
     all_goals (try (have h3:0<c:=by omega))
     all_goals clear hgo
     all_goals
      have hcell':=hrow.drew.cell (i:=i+k) hik3;have hfr':=hrow.drew.frozen (i+k);have HS:Hid (mxF (mT P d b i k) P (i+k) (i+k) = .int .i64 (p:Int)):=za (by have:=(hrow.cell (i:=i+k) hik3).symm.trans hcell;injection this);rw [HS.out] at hcell';go_wp2_with fail
      go_region_held3 (fun w'=>w'.cell? ⟨w.heap.size,i+k,none⟩=some (.int .i64 (p:Int))) (first | exact hcell' | go_keep)
       (first
         | (go_simp
            go_at_call_of 145 (Value.string sa)
            (with_reducible refine (HDA'.out _).mono ?_);rintro e' w9 ⟨rfl,rfl⟩)
         | (go_simp
            go_at_call_of 145 (Value.string sb)
            (with_reducible refine (HDB'.out _).mono ?_);rintro e' w9 ⟨rfl,rfl⟩))
      go_wp2;rw [X1.out,X2.out];go_roundw
      case rel =>
       refine ⟨k+1,by omega,by go_num,rfl,hke',(hrow.drew.set (i+k) _).congr fun j _=>?_,qw hbel 1 |>.setCell (by simp) _⟩;unfold mxF;rw [HNX.out];split
       ·rfl
       ·rfl
      case measure=>simp [intOf];omega
    ·have h1:sb.size≤k:=by omega
     have h3:¬ 0<(mc P d b i k:Int):=by omega
     have hfin:Hid (∀ j,mxd (mT P d b i k) P (i+k) j=dg 10 (mP a b (i+1)) j):=fun j=>by rw [HPS.out];exact mxd_end P d b i k j (by omega) (by omega)
     have hrow':=hrow.congr (g:=yA (mP a b (i+1))) fun j _=>by unfold mxF yA;rw [hfin.out]
     clear hgo hrow;go_wp2;go_roundw
     case rel=>exact ⟨i+1,by omega,by go_num,hrow',hbel⟩
     case measure=>simp [intOf];omega
  ·obtain rfl:i=sa.size:=by omega
   rw [mP_end a b _ (by omega)] at hrow;have hndm:nd 10 (a*b)≤sa.size+sb.size+1:=by have:=nd_mul 10 (by decide) a b;omega
   have hrd:Rd wr wr.heap.size (some ⟨w.heap.size,0,none⟩) (sa.size+sb.size+1) (yA (a*b)):=Rd.of_row hrow (zi _) hrow.lt;have HR:=za hrd;have hszw:=hbel.size;clear hrd hrow;go_wp2_with (go_at_call 148;(with_reducible refine (HF.out _ _ _ _ (by omega) (by omega) hndm HR.out).mono ?_);rintro e w' ⟨rfl,hb9⟩)
   go_ret;exact ⟨rfl,zu hbel hb9 hszw⟩
end Go.Proofs.YtoljkoifgnmbgaaGreatDoor
end
section
namespace Cs
open Go
def tl (V m:Nat):List UInt8:=(List.range m).map fun t=>UInt8.ofNat (48+dg 10 V (m-1-t))
theorem gF (V m:Nat):tl V (m+1)=UInt8.ofNat (48+dg 10 V m)::tl V m:=by
 unfold tl;rw [List.range_succ_eq_map,List.map_cons,List.map_map];congr 1;apply List.map_congr_left;intro t _;show UInt8.ofNat (48+dg 10 V (m+1-1-(t+1)))=_;rw [show m+1-1-(t+1)=m-1-t by omega]
theorem dec_tl (V:Nat):(zj V).data.toList=tl V (zB V):=rfl
theorem dgc_lt (a b:Nat) (ha:a<10) (hb:b<10):(UInt8.ofNat (48+a)<UInt8.ofNat (48+b))↔a<b:=by
 rw [UInt8.lt_iff_toNat_lt,UInt8.toNat_ofNat',UInt8.toNat_ofNat'];omega
theorem dgc_eq (a b:Nat) (ha:a<10) (hb:b<10):(UInt8.ofNat (48+a)=UInt8.ofNat (48+b))↔a=b:=by
 constructor
 ·intro h;have:=congrArg UInt8.toNat h;rw [UInt8.toNat_ofNat',UInt8.toNat_ofNat'] at this;omega
 ·intro h;rw [h]
theorem oD (V B:Nat):∀ m,Op.bytesLess (tl V m) (tl B m)=decide (V%10^m<B%10^m)
 | 0=>by simp [tl,Op.bytesLess,Nat.mod_one]
 | m+1=>by
   have ih:=oD V B m;have h1:=y9 V m;have h2:=y9 B m;have h3:=Nat.mod_lt V (jA m);have h4:=Nat.mod_lt B (jA m);rw [gF,gF,zbw,zbw];unfold Op.bytesLess;by_cases h:dg 10 V m=dg 10 B m
   ·rw [h,ih];simp
   ·have hne:¬ UInt8.ofNat (48+dg 10 V m)=UInt8.ofNat (48+dg 10 B m):=fun e=>h ((dgc_eq _ _ h1 h2).1 e);by_cases hl:dg 10 V m<dg 10 B m
    ·have e:V%10^m+10^m*dg 10 V m<B%10^m+10^m*dg 10 B m:=by
      have:10^m*(dg 10 V m+1)≤10^m*dg 10 B m:=Nat.mul_le_mul_left _ hl;rw [Nat.mul_add] at this;omega
     have hlt:=(dgc_lt _ _ h1 h2).2 hl;rw [decide_eq_true hlt,decide_eq_true e];rfl
    ·have e:¬ V%10^m+10^m*dg 10 V m<B%10^m+10^m*dg 10 B m:=by
      have:10^m*(dg 10 B m+1)≤10^m*dg 10 V m:=Nat.mul_le_mul_left _ (by omega);rw [Nat.mul_add] at this;omega
     have hl':¬ UInt8.ofNat (48+dg 10 V m)<UInt8.ofNat (48+dg 10 B m):=fun e=>hl ((dgc_lt _ _ h1 h2).1 e);rw [decide_eq_false hl',decide_eq_false e,beq_eq_false_iff_ne.2 hne];rfl
theorem zks (V B:Nat) (h:zB V=zB B):Op.bytesLess (zj V).data.toList (zj B).data.toList=decide (V<B):=by
 rw [dec_tl,dec_tl,h,oD,Nat.mod_eq_of_lt,Nat.mod_eq_of_lt]
 ·exact (zbC B _).1 (gu B)
 ·rw [← h];exact (zbC V _).1 (gu V)
theorem yz {a b:Nat} (h:a≤b):zB a≤zB b:=by
 have:=zhq 10 (by decide) h;unfold zB;omega
theorem decN_is (X n:Nat) (h1:10^n≤X) (h2:X+1≤10^(n+1)):zB X=n+1:=by
 have h3:=zbW X (n+1) h2 (by omega);have h4:n<nd 10 X:=by
  rcases Nat.lt_or_ge n (nd 10 X) with h | h
  ·exact h
  ·have:=(zbC X n).1 h;exact absurd this (Nat.not_lt.2 h1)
 have h5:=gu X;exact Nat.le_antisymm h3 (Nat.le_trans h4 h5)
theorem zef:zB zM=1234:=by
 rw [zem];exact decN_is _ 1233 (Nat.le_of_ble_eq_true (by kernel_rfl)) (Nat.le_of_ble_eq_true (by kernel_rfl))
end Cs
end
section
open Go Go.RowKit Cs
namespace Go.Proofs.YtoljkoifgnmbgaaGreatDoor
theorem pN (n:Nat) (h:n≤4096):zB (2^n)≤1234:=by
 rw [← zef,zem];exact yz (Nat.pow_le_pow_right (by decide) (by rw [zcr];exact h))
theorem dec_one:zj 1=⟨#[49]⟩:=by decide +kernel
theorem zie (w:World) (n:Nat) (hn:n≤4096):Calls Tryz.prog 119 #[.int .i64 n] w fun e w'=>e = .returned (.string (zj (2^n)))∧Below w.heap.size w w':=by
 have hdb:∀ k,k≤n→zB (2^k)≤10000000:=fun k hk=>by have:=pN k (by omega);omega
 have hadd:=fun W k hk=>zdV W (2^k) (2^k) (hdb k hk) (hdb k hk);have hdbl:∀ k,2^k+2^k=2^(k+1):=fun k=>by rw [Nat.pow_succ];omega
 have h1:=dec_one;have HADD:=za hadd;have HDBL:=za hdbl;have H1:=za h1;clear hdb hadd hdbl h1;go_enter Tryz.func119, Tryz.ntmps119;go_wp2;go_loopw [3,4] (fun s t wr=>∃ k:Nat,k≤n∧t = .int .i64 k∧Hid (s = .string (zj (2^k)))∧Below w.heap.size w wr) (fun _ t _=>n-(intOf t).toNat)
 case atStart=>exact ⟨0,by omega,rfl,by show _=_;rw [Nat.pow_zero,H1.out],zA _ _⟩
 case round =>
  obtain ⟨k,hk,rfl,hs,hbel⟩:=hrel;have hszw:=hbel.size;obtain rfl:=hs.out;clear hs;by_cases hlt:k<n
  ·go_wp2_with (go_at_call 120;(with_reducible refine (HADD.out _ k (by omega)).mono ?_);rintro e w' ⟨rfl,hb9⟩)
   go_roundw
   case rel=>exact ⟨k+1,by omega,by go_num,by show _=_;rw [HDBL.out],zu hbel hb9 hszw⟩
   case measure=>simp [intOf];omega
  ·obtain rfl:k=n:=by omega
   go_wp2;go_ret;exact ⟨rfl,hbel⟩
theorem gL (w:World) (a b:ByteArray) (h:a.size=b.size) (hl:Op.bytesLess a.toList b.toList=true):Calls Tryz.prog 146 #[.string a,.string b] w fun e w'=>e = .returned (.int .i64 (-1))∧w=w':=by
 have hi:a.size≤b.size:=by omega
 have hj:b.size≤a.size:=by omega
 clear h;go_enter Tryz.func146, Tryz.ntmps146;go_wp2;all_goals go_ret
 all_goals exact ⟨rfl,rfl⟩
def Some0 (w:World) (e:Ending) (w':World):Prop:=∃ r:Int,0≤r∧r≤1∧e = .returned (.int .i64 r)∧w=w'
theorem rcmp_ge (w:World) (a b:ByteArray) (h:a.size=b.size) (hl:Op.bytesLess a.toList b.toList=false):Calls Tryz.prog 146 #[.string a,.string b] w (Some0 w):=by
 have hi:a.size≤b.size:=by omega
 have hj:b.size≤a.size:=by omega
 clear h;go_enter Tryz.func146, Tryz.ntmps146;go_wp2;all_goals go_ret
 all_goals exact ⟨_,by decide,by decide,rfl,rfl⟩
end Go.Proofs.YtoljkoifgnmbgaaGreatDoor
end
end
end
section
section
section
namespace Cs
def tn:List Nat→Nat
 | []=>0
 | x::xs=>if tn xs=0∧x=0 then 0 else tn xs+1
theorem zgg:∀ p:List Nat,tn p≤p.length
 | []=>zi _
 | x::xs=>by
   have:=zgg xs;unfold tn;split
   ·omega
   ·simp only [List.length_cons];omega
theorem zgZ:∀ (p:List Nat) (j:Nat),tn p≤j→p.getD j 0=0
 | [],j,_=>by simp
 | x::xs,j,h=>by
   unfold tn at h;split at h
   ·rename_i h0;cases j with
    | zero=>simpa using h0.2
    | succ j=>simpa using zgZ xs j (by omega)
   ·cases j with
    | zero=>omega
    | succ j=>simpa using zgZ xs j (by omega)
theorem ziX:∀ p:List Nat,0<tn p→p.getD (tn p-1) 0≠0
 | [],h=>by simp [tn] at h
 | x::xs,h=>by
   unfold tn at h ⊢;split at h
   ·omega
   ·rename_i h0;rw [if_neg h0];rcases Nat.eq_zero_or_pos (tn xs) with h1 | h1
    ·rw [h1];simpa using fun h2=>h0 ⟨h1,h2⟩
    ·have:=ziX xs h1;obtain ⟨m,hm⟩:∃ m,tn xs=m+1:=⟨tn xs-1,by omega⟩;rw [hm] at this ⊢;simpa using this
theorem tn_eq (p:List Nat) (m:Nat) (h1:∀ j,m≤j→p.getD j 0=0) (h2:m=0∨p.getD (m-1) 0≠0):m=tn p:=by
 rcases Nat.lt_trichotomy m (tn p) with h | h | h
 ·exact absurd (h1 (tn p-1) (by omega)) (ziX p (by omega))
 ·exact h
 ·rcases h2 with h2 | h2
  ·omega
  ·exact absurd (zgZ p (m-1) (by omega)) h2
def trimP (p:List Nat):List Nat:=p.take (tn p)
theorem zbf (p:List Nat):(trimP p).length=tn p:=by unfold trimP;rw [List.length_take];have:=zgg p;omega
theorem zhV (p:List Nat) (i:Nat):(trimP p).getD i 0=p.getD i 0:=by
 unfold trimP;rcases Nat.lt_or_ge i (tn p) with h | h
 ·rw [List.getD_eq_getElem?_getD,List.getElem?_take_of_lt h,← List.getD_eq_getElem?_getD]
 ·rw [zgZ p i h,List.getD_eq_getElem?_getD,List.getElem?_eq_none (by rw [List.length_take];omega)];rfl
def yQ (a b:List Nat):List Nat:=(List.range (a.length+b.length)).map fun t=>yt a b a.length t
theorem mulF_len (a b:List Nat):(yQ a b).length=a.length+b.length:=by unfold yQ;simp
theorem zeY (a b:List Nat) (t:Nat):(yQ a b).getD t 0=yt a b a.length t:=by
 unfold yQ;rw [zcq];split
 ·rfl
 ·exact (zk5 a b t a.length (by omega)).symm
theorem ev_ext:∀ (n:Nat) (a b:List Nat),(∀ i,a.getD i 0=b.getD i 0)→a.length≤n→b.length≤n→ev a=ev b:=by
 intro n a b h ha hb;rw [zfP,zfP,← zfr _ a.length n ha (fun i hi _=>zcB a i hi),← zfr _ b.length n hb (fun i hi _=>zcB b i hi)];exact zjK _ _ n fun i _=>h i
theorem oG (a b:List Nat) (h:∀ i,a.getD i 0=b.getD i 0):ev a=ev b:=ev_ext (max a.length b.length) a b h (by omega) (by omega)
end Cs
end
section
open Go Go.RowKit Cs
namespace Go.Proofs.YtoljkoifgnmbgaaGreatDoor
def zS (p:List Nat) (i:Nat):Value:=.string (zj (p.getD i 0))
theorem zdH (x:Nat):((zj x).toList=[48])↔x=0:=by
 constructor
 ·intro h;apply zfS;rw [jP];apply ByteArray.ext;apply Array.ext';have e:(zj x).toList=(zj x).data.toList:=ByteArray.toList_eq _;rw [← e,h]
 ·intro h;subst h;rw [jP,ByteArray.toList_eq]
theorem zid (w:World) (A:Option Addr) (c:Nat) (p:List Nat) (hl:p.length≤1000000000) (hc:p.length≤c) (hA:Rd w w.heap.size A p.length (zS p)) :
  Calls Tryz.prog 181 #[.slice A p.length c] w fun e w'=>e = .returned (.slice A (trimP p).length c)∧w=w':=by
 rw [zbf];go_enter Tryz.func181, Tryz.ntmps181;go_wp2
 go_loop [0] (fun t=>∃ m:Nat,m≤p.length∧t = .slice A m c∧Hid (∀ j,m≤j→p.getD j 0=0)) (fun t=>lenOf t)
 case atStart=>exact ⟨p.length,zi _,rfl,fun j hj=>zcB p j hj⟩
 case round =>
  obtain ⟨m,hm,rfl,HZ⟩:=hrel;have hfin:=tn_eq p m HZ.out;have HF:=za hfin;clear hfin;rcases Nat.eq_zero_or_pos m with h0 | h0
  ·subst h0;have hf:=HF.out (.inl rfl);go_wp2;go_ret;exact ⟨by rw [← hf];rfl,rfl⟩
  ·obtain ⟨b,o,rfl,hb,hcs⟩:=hA (by omega);have hcell:=hcs (m-1) (by omega);unfold zS at hcell;obtain ⟨x,hx⟩:∃ x,p.getD (m-1) 0=x:=⟨_,rfl⟩;rw [hx] at hcell HF;have h0':=zdH x;have i0:(0:Int)≤(m:Int)-1:=by omega
   have i1:(m:Int)-1<(m:Int):=by omega
   by_cases hx0:x=0
   ·have hd:(zj x).toList=[48]:=h0'.2 hx0;have HX:=za (hx.trans hx0);clear hcs h0' hx hx0;generalize zj x=s at *
    go_wp2
    go_round
    case rel =>
     refine ⟨m-1,by omega,by first | rfl | simp,fun j hj=>?_⟩;rcases Nat.eq_or_lt_of_le hj with e | e
     ·rw [← e];exact HX.out
     ·exact HZ.out j (by omega)
    case measure=>simp [lenOf];omega
   ·have hd:¬ (zj x).toList=[48]:=fun h=>hx0 (h0'.1 h);have hd2:((zj x).toList==[48])=false:=beq_eq_false_iff_ne.2 hd;have hf:=HF.out (.inr hx0);have HFF:=za hf;clear hcs h0' hx hx0 hf;generalize zj x=s at *
    go_wp2;go_ret;exact ⟨by rw [← HFF.out];rfl,rfl⟩
theorem gM (w:World) (A:Option Addr) (c:Nat) (p:List Nat) (i:Nat) (hl:p.length≤1000000000) (hA:Rd w w.heap.size A p.length (zS p)) :
  Calls Tryz.prog 182 #[.slice A p.length c,.int .i64 i] w fun e w'=>e = .returned (.string (zj (p.getD i 0)))∧w=w':=by
 by_cases h:i<p.length
 ·obtain ⟨b,o,rfl,hb,hcs⟩:=hA (by omega);have hcell:=hcs i h;unfold zS at hcell;generalize zj (p.getD i 0)=s at *
  clear hcs;go_enter Tryz.func182, Tryz.ntmps182;go_wp2;go_ret;exact ⟨rfl,rfl⟩
 ·rw [zcB p i (by omega)];have hz:=jP;have HZ:=za hz;clear hz hA;go_enter Tryz.func182, Tryz.ntmps182;go_wp2;go_ret;exact ⟨by rw [HZ.out];rfl,rfl⟩
theorem zd1:(Tryz.prog.info? 9).map (fun i=>(i.zero,i.size,i.bytes))=some (some (.string ⟨#[]⟩),1,16):=by kernel_rfl
def pM (p:List Nat) (n:Nat):List Value:=(List.range n).map (zS p)
theorem pK (p:List Nat) (n:Nat):pM p (n+1)=pM p n++[.string (zj (p.getD n 0))]:=by simp [pM,zS,List.range_succ]
theorem decs_get (p:List Nat) (n j:Nat) (h:j<n):(pM p n)[j]?=some (zS p j):=by simp [pM,h]
def RdS (w:World) (B:Nat) (A:Option Addr) (p:List Nat):Prop:=Rd w B A p.length (zS p)∧(0<p.length→∀ b o,A=some ⟨b,o,none⟩→∃ cs fr,w.heap[b]?=some (.cells cs 9 fr))
theorem RdS.rd {w:World} {B:Nat} {A:Option Addr} {p:List Nat} (h:RdS w B A p):Rd w B A p.length (zS p):=h.1
theorem RdS.below {w w':World} {B:Nat} {A:Option Addr} {p:List Nat} (h:RdS w B A p) (hb:Below B w w'):RdS w' B A p :=
 ⟨h.1.below hb,fun hn b o e=>by
   obtain ⟨b',o',e',hB,_⟩:=h.1 hn;obtain ⟨cs,fr,hc⟩:=h.2 hn b o e;rw [e] at e';have:b=b':=by injection e' with e';injection e'
   exact ⟨cs,fr,by rw [hb.block b (by omega)];exact hc⟩⟩
theorem RdS.more {w:World} {B B':Nat} {A:Option Addr} {p:List Nat} (h:RdS w B A p) (hB:B≤B'):RdS w B' A p:=⟨h.1.more hB,h.2⟩
def zl6 (w:World) (p:List Nat) (e:Ending) (w':World):Prop:=∃ A c,e = .returned (.slice A p.length c)∧p.length≤c∧RdS w' w'.heap.size A p∧Below w.heap.size w w'
theorem Rd.trimP {w:World} {B:Nat} {A:Option Addr} {p:List Nat} (h:Rd w B A p.length (zS p)):Rd w B A (trimP p).length (zS (trimP p)):=by
 have hl:=zbf p;have:=zgg p;refine (h.take (m:=(Cs.trimP p).length) (by omega)).congr fun i _=>?_;unfold zS;rw [zhV]
theorem RdS.trimP {w:World} {B:Nat} {A:Option Addr} {p:List Nat} (h:RdS w B A p):RdS w B A (Cs.trimP p) :=
 ⟨Rd.trimP h.1,fun hn b o e=>h.2 (by rw [zbf] at hn;have:=zgg p;omega) b o e⟩
theorem zii (w:World) (A B:Option Addr) (ca cb:Nat) (a b:List Nat) (hla:a.length≤100000) (hlb:b.length≤100000) (hA:Rd w w.heap.size A a.length (zS a)) (hB:Rd w w.heap.size B b.length (zS b))
  (hda:∀ i,zB (a.getD i 0)≤10000000) (hdb:∀ i,zB (b.getD i 0)≤10000000) :
  Calls Tryz.prog 176 #[.slice A a.length ca,.slice B b.length cb] w (zl6 w (trimP (yb a b))):=by
 obtain ⟨ti,hi,hz0,hz1,hz2⟩:=info_parts zd1;have hlen:=zcF a b;have hget:=addP_get a b;obtain ⟨p,hp⟩:∃ p,yb a b=p:=⟨_,rfl⟩;rw [hp] at hlen ⊢;simp only [hp] at hget;have hadd:=fun W i=>zdV W (a.getD i 0) (b.getD i 0) (hda i) (hdb i);simp only [← hget] at hadd;have HADD:=za hadd;have HA:=za hA;have HB:=za hB;have hpl:p.length≤100000:=by omega
 have HL:=za hlen;clear hda hdb hadd hget hp hA hB hlen;go_enter Tryz.func176, Tryz.ntmps176;go_wp2;go_loopw [5,6] (fun l t wr=>∃ k:Nat,k≤p.length∧t = .int .i64 k∧wr.ownsRow w.heap.size 9 1 l k (pM p k)∧Below w.heap.size w wr) (fun _ t _=>p.length-(intOf t).toNat)
 case atStart=>exact ⟨0,by omega,rfl,World.ownsRow_nil _ _ _ _,zA _ _⟩
 case round =>
  obtain ⟨k,hk,rfl,hown,hbel⟩:=hrel;have hszw:=hbel.size;have HRA:=za ((HA.out.below hbel).more hszw);have HRB:=za ((HB.out.below hbel).more hszw);by_cases hlt:k<p.length
  ·have hlt0:∀ k,u5.ownBlock=some k→w.heap.size≤k:=fun k hk=>(hown.lt k hk).1;have hor:k<a.length∨(a.length≤k∧k<b.length):=by have:=HL.out;omega
   clear hlt;have hra:=fun W h=>gM W A ca a k (by omega) h;have hrb:=fun W h=>gM W B cb b k (by omega) h;have hadd:=HADD.out;replace hadd:=fun W=>hadd W k;have hsu:=pK p k;obtain ⟨x,hx⟩:∃ x,a.getD k 0=x:=⟨_,rfl⟩;obtain ⟨y,hy⟩:∃ y,b.getD k 0=y:=⟨_,rfl⟩;obtain ⟨z,hz⟩:∃ z,p.getD k 0=z:=⟨_,rfl⟩;simp only [hx,hy,hz] at hra hrb hadd hsu;have HRAT:=za hra;have HRBT:=za hrb;have HAD:=za hadd;have HSU:=za hsu;clear hra hrb hadd hsu hx hy hz;rcases hor with h1 | ⟨h1,h2⟩
   all_goals
    go_wp2_with (first
     | (go_at_call_of 182 (Value.slice A a.length ca);(with_reducible refine (HRAT.out _ HRA.out).mono ?_);rintro e w' ⟨rfl,rfl⟩)
     | (go_at_call_of 182 (Value.slice B b.length cb);(with_reducible refine (HRBT.out _ HRB.out).mono ?_);rintro e w' ⟨rfl,rfl⟩)
     | (go_at_call 120;(with_reducible refine (HAD.out _).mono ?_);rintro e w7 ⟨rfl,hb7⟩
        have hown7:=yp hown hb7;have hbel7:=zu hbel hb7 hszw;have hsz7:=hbel7.size)
     | (at_builtin;refine wpList_append_own _ rfl _ _ 204 rfl w.heap.size 9 ti (.string ⟨#[]⟩) 1 16 Tryz.underlying204 hi hz0 hz1 hz2 rfl (by decide) _ _ _ rfl (hown7.alloc _) ⟨w7.heap.size,0,none⟩ 1 1 [.string (zj z)] rfl rfl qR oneStr (by unfold maxLen;omega) (by omega) (by simp;omega) ?_;intro v' w3 hown3 hgr3 _))
    have hbel3:=(hbel7.alloc hbel7.size _).grown hgr3 (by simp;omega) (fun k e=>hlt0 k e);rw [← HSU.out] at hown3;go_roundw
    case rel=>exact ⟨k+1,by have:=HL.out;omega,by go_num,hown3,hbel3⟩
    case measure=>have:=HL.out;simp [intOf];omega
  ·obtain rfl:k=p.length:=by omega
   have h1:a.length≤p.length:=by have:=HL.out;omega
   have h2:b.length≤p.length:=by have:=HL.out;omega
   have hform:∃ A' c',u5 = .slice A' p.length c'∧p.length≤c'∧RdS wr wr.heap.size A' p:=by
    obtain ⟨q1,q2⟩:=hown;rcases q2 with ⟨rfl,h0⟩ | ⟨g,cap,cur,rfl,hg,hb,hn,hm,hs,ht⟩
    ·exact ⟨none,0,by rw [h0],by omega,fun h=>absurd h (by omega),fun h=>absurd h (by omega)⟩
    ·exact ⟨_,cap,rfl,hn,Rd.of_own (base:=w.heap.size) (e:=9) ⟨q1,.inr ⟨g,cap,cur,rfl,hg,hb,hn,hm,hs,ht⟩⟩ fun i hi=>decs_get p _ i hi,fun _ b o e=>by
      have:g=b:=by injection e with e;injection e
      subst this;exact ⟨_,_,hb⟩⟩
   obtain ⟨A',c',rfl,hc',hrd⟩:=hform;have HRD:=za hrd;clear hown hlt hrd;go_wp2_with (go_at_call 181;(with_reducible refine (zid _ A' c' p (by omega) hc' HRD.out.rd).mono ?_);rintro e w' ⟨rfl,rfl⟩)
   go_ret;exact ⟨A',c',rfl,by rw [zbf];have:=zgg p;omega,RdS.trimP HRD.out,hbel⟩
end Go.Proofs.YtoljkoifgnmbgaaGreatDoor
end
end
section
open Go Go.RowKit Cs
namespace Go.Proofs.YtoljkoifgnmbgaaGreatDoor
theorem rmk_str (n:Nat) (h:n≤1000000000) (u:World):(Instr.makeSlice 204 (.int .i64 (n:Int)) (.int .i64 (n:Int))).run Tryz.prog u =
  .ok (.slice (some ⟨u.heap.size,0,none⟩) n n) (u.alloc (.cells (madeCells #[.string ⟨#[]⟩] n) 9)):=by
 obtain ⟨i0,hi,hz0,hz1,hz2⟩:=info_parts zd1;exact run_make_row 204 9 i0 (.string ⟨#[]⟩) Tryz.underlying204 hi hz0 hz1 rfl .i64 .i64 n (by rw [hz2];omega) (by omega) u
def cvF (f:Nat→Nat) (j:Nat):Value:=.string (zj (f j))
theorem zih (w:World) (A B:Option Addr) (ca cb:Nat) (a b:List Nat) (hla:a.length≤100000) (hlb:b.length≤100000) (hA:Rd w w.heap.size A a.length (zS a)) (hB:Rd w w.heap.size B b.length (zS b))
  (hda:∀ i,zB (a.getD i 0)≤10000000) (hdb:∀ i,zB (b.getD i 0)≤10000000) (hdab:∀ i k,zB (a.getD i 0*b.getD k 0)≤10000000) (hcv:∀ i k t,i<a.length→k≤b.length→zB (yY a b i (yt a b i) k t)≤10000000) :
  Calls Tryz.prog 175 #[.slice A a.length ca,.slice B b.length cb] w (zl6 w (trimP (yQ a b))):=by
 have hlen:=mulF_len a b;have hget:=zeY a b;obtain ⟨p,hp⟩:∃ p,yQ a b=p:=⟨_,rfl⟩;rw [hp] at hlen ⊢;simp only [hp] at hget;have HGET:=za hget;have HA:=za hA;have HB:=za hB;have HDA:=za hda;have HDB:=za hdb;have HDAB:=za hdab;have HCVB:=za hcv;have HL:=za hlen;have hmk:=rmk_str (a.length+b.length) (by omega);rw [Int.natCast_add] at hmk;have hz0:(Value.string ⟨#[48]⟩) = .string (zj 0):=by rw [jP]
 have HZ:=za hz0;clear hda hdb hdab hget hp hA hB hlen hcv hz0;go_enter Tryz.func175, Tryz.ntmps175;go_wp2;go_loopw [6] (fun t wr=>∃ k:Nat,k≤a.length+b.length∧t = .int .i64 k∧wr.rowIs w.heap.size 9 (a.length+b.length) (fun j=>if j<k then .string (zj 0) else .string ⟨#[]⟩)∧Below w.heap.size w wr) (fun t _=>a.length+b.length-(intOf t).toNat)
 case atStart=>exact ⟨0,by omega,rfl,jz _ _ _ _ _ rfl (fun i _=>by simp),(zA _ _).alloc (zi _) _⟩
 case round =>
  obtain ⟨k,hk,rfl,hrow,hbel⟩:=hrel;by_cases hlt:k<a.length+b.length
  ·have hf:=hrow.frozen k;have hc:=hrow.cell (i:=k) hlt;have i1:(k:Int)<(a.length:Int)+(b.length:Int):=by omega
   go_wp2;go_roundw
   case rel =>
    refine ⟨k+1,by omega,by go_num,(hrow.set k _).congr fun j _=>?_,hbel.setCell (by simp) _⟩;split
    ·subst j;rw [if_pos (by omega),HZ.out]
    ·by_cases h:j<k
     ·rw [if_pos h,if_pos (by omega)]
     ·rw [if_neg h,if_neg (by omega)]
   case measure=>simp [intOf];omega
  ·obtain rfl:k=a.length+b.length:=by omega
   have hrow0:wr.rowIs w.heap.size 9 (a.length+b.length) (cvF (yt a b 0)):=hrow.congr fun j hj=>by rw [if_pos hj];rfl
   have hnlt:¬ ((a.length+b.length:Nat):Int)<(a.length:Int)+(b.length:Int):=by omega
   clear hrow hlt;obtain ⟨W1,rfl⟩:∃ W1,W1=wr:=⟨wr,rfl⟩;go_wp2;go_loopw [7] (fun t wr=>∃ i:Nat,i≤a.length∧t = .int .i64 i∧wr.rowIs w.heap.size 9 (a.length+b.length) (cvF (yt a b i))∧Below w.heap.size w wr) (fun t _=>a.length-(intOf t).toNat)
   case atStart=>exact ⟨0,by omega,rfl,hrow0,hbel⟩
   case round =>
    clear hrow0 hbel hnlt;obtain ⟨i,hi,rfl,hrow,hbel⟩:=hrel;by_cases hilt:i<a.length
    ·obtain ⟨b1,o1,rfl,hb1,hcs⟩:=HA.out (by omega);have hca0:=hcs i hilt;unfold zS at hca0;obtain ⟨x,hx⟩:∃ x,a.getD i 0=x:=⟨_,rfl⟩;rw [hx] at hca0;have HX:=za hx;clear hcs hx;obtain ⟨W0,rfl⟩:∃ W0,W0=wr:=⟨wr,rfl⟩;have hrow1:W0.rowIs w.heap.size 9 (a.length+b.length) (cvF (yY a b i (yt a b i) 0)):=hrow;clear hrow;go_wp2;go_loopw [8] (fun t wr=>∃ k:Nat,k≤b.length∧t = .int .i64 k∧wr.rowIs w.heap.size 9 (a.length+b.length) (cvF (yY a b i (yt a b i) k))∧Below w.heap.size w wr) (fun t _=>b.length-(intOf t).toNat)
     case atStart=>exact ⟨0,by omega,rfl,hrow1,hbel⟩
     case round =>
      clear hrow1 hbel;obtain ⟨k,hk,rfl,hrow,hbel⟩:=hrel;by_cases hklt:k<b.length
      ·obtain ⟨b2,o2,rfl,hb2,hcs⟩:=HB.out (by omega);have hcb0:=hcs k hklt;unfold zS at hcb0;obtain ⟨y,hy⟩:∃ y,b.getD k 0=y:=⟨_,rfl⟩;rw [hy] at hcb0;have hik:i+k<a.length+b.length:=by omega
       have hcv:∀ t,yY a b i (yt a b i) (k+1) t=yY a b i (yt a b i) k t+if t=i+k then x*y else 0:=fun t=>by rw [← hy,← HX.out];rfl
       have HCV:=za hcv;have hmul:=fun W=>zbK W x y (by rw [← HX.out];exact HDA.out i) (by rw [← hy];exact HDB.out k);have hsb:=HCVB.out i k (i+k) hilt (by omega);have hxy:=HDAB.out i k;rw [HX.out,hy] at hxy;obtain ⟨s,hs⟩:∃ s,yY a b i (yt a b i) k (i+k)=s:=⟨_,rfl⟩;rw [hs] at hsb;have HS:=za hs;have hadd:=fun W=>zdV W s (x*y) hsb hxy;have HMUL:=za hmul;have HADD:=za hadd;clear hcs hy hcv hmul hadd hs hsb hxy;have hbl':=qw hbel 1
       change Below _ _ (World.drew _) at hbl'
       have hzz':=hbl'.size;have hrow':=hrow.drew;have hca:wr.drew.cell? ⟨b1,o1+i,none⟩=some (.string (zj x)):=zF hbl' hb1 hca0;have hcb:wr.drew.cell? ⟨b2,o2+k,none⟩=some (.string (zj y)):=zF hbl' hb2 hcb0;have hs1':wr.drew.cell? ⟨w.heap.size,i+k,none⟩=some (.string (zj s)):=(hrow'.cell (i:=i+k) hik).trans (by unfold cvF;rw [HS.out]);have hs2':=hrow'.frozen (i+k);have hi1:(0:Int)≤(i:Int)+(k:Int):=by omega
       have hi2:(i:Int)+(k:Int)<(a.length:Int)+(b.length:Int):=by omega
       have hwr:IntKind.i64.wrap ((i:Int)+(k:Int))=(i:Int)+(k:Int):=by rw [IntKind.wrap_i64];omega
       have htn:((i:Int)+(k:Int)).toNat=i+k:=by omega
       clear hcb0;go_wp2_with fail
       refine zcR (fun w'=>w'.cell? ⟨w.heap.size,i+k,none⟩=some (.string (zj s))∧w'.cell? ⟨b1,o1+i,none⟩=some (.string (zj x))∧w'.cell? ⟨b2,o2+k,none⟩=some (.string (zj y))) 21 (by kernel_rfl) ⟨hs1',hca,hcb⟩ (fun hS=>?_);refine qN 0 (v:=?_) hS rfl (Or.inl ⟨by rfl,?_⟩) ?_;rotate_left
       ·(intro w hSw;go_simp;try with_reducible rfl)
       try simp only [Act.put,zm,zl,zk]
       refine qN 1 (v:=?_) hS rfl (Or.inl ⟨by rfl,?_⟩) ?_;rotate_left
       ·(intro w hSw;go_simp;try with_reducible rfl)
       try simp only [Act.put,zm,zl,zk]
       refine qN 2 (v:=?_) hS rfl (Or.inl ⟨by rfl,?_⟩) ?_;rotate_left
       ·(intro w hSw;go_simp;try with_reducible rfl)
       try simp only [Act.put,zm,zl,zk]
       refine qN 3 (v:=?_) hS rfl (Or.inl ⟨by rfl,?_⟩) ?_;rotate_left
       ·(intro w hSw;go_simp;try with_reducible rfl)
       try simp only [Act.put,zm,zl,zk]
       refine qN 4 (v:=?_) hS rfl (Or.inl ⟨by rfl,?_⟩) ?_;rotate_left
       ·(intro w hSw;go_simp;try with_reducible rfl)
       try simp only [Act.put,zm,zl,zk]
       refine qN 5 (v:=?_) hS rfl (Or.inl ⟨by rfl,?_⟩) ?_;rotate_left
       ·(intro w hSw;go_simp;try with_reducible rfl)
       try simp only [Act.put,zm,zl,zk]
       refine qN 6 (v:=?_) hS rfl (Or.inl ⟨by rfl,?_⟩) ?_;rotate_left
       ·(intro w hSw;go_simp;try with_reducible rfl)
       try simp only [Act.put,zm,zl,zk]
       refine qN 7 (v:=?_) hS rfl (Or.inl ⟨by rfl,?_⟩) ?_;rotate_left
       ·(intro w hSw;go_simp;try with_reducible rfl)
       try simp only [Act.put,zm,zl,zk]
       refine qN 8 (v:=?_) hS rfl (Or.inl ⟨by rfl,?_⟩) ?_;rotate_left
       ·(intro w hSw;go_simp;try with_reducible rfl)
       try simp only [Act.put,zm,zl,zk]
       refine qN 9 (v:=?_) hS rfl (Or.inl ⟨by rfl,?_⟩) ?_;rotate_left
       ·(intro w hSw;go_simp;try with_reducible rfl)
       try simp only [Act.put,zm,zl,zk]
       refine qN 10 (v:=?_) hS rfl (Or.inl ⟨by rfl,?_⟩) ?_;rotate_left
       ·(intro w hSw;go_simp;try with_reducible rfl)
       try simp only [Act.put,zm,zl,zk]
       refine qN 11 (v:=?_) hS rfl (Or.inl ⟨by rfl,?_⟩) ?_;rotate_left
       ·(intro w hSw;go_simp;try with_reducible rfl)
       try simp only [Act.put,zm,zl,zk]
       refine qN 12 (v:=?_) hS rfl (Or.inl ⟨by rfl,?_⟩) ?_;rotate_left
       ·(intro w hSw;go_simp;try with_reducible rfl)
       try simp only [Act.put,zm,zl,zk]
       refine qN 13 (v:=?_) hS rfl (Or.inl ⟨by rfl,?_⟩) ?_;rotate_left
       ·(intro w hSw;go_simp;try with_reducible rfl)
       try simp only [Act.put,zm,zl,zk]
       refine qN 14 (v:=?_) hS rfl (Or.inl ⟨by rfl,?_⟩) ?_;rotate_left
       ·(intro w hSw;go_simp;try with_reducible rfl)
       try simp only [Act.put,zm,zl,zk]
       refine qN 15 (v:=?_) hS rfl (Or.inl ⟨by rfl,?_⟩) ?_;rotate_left
       ·(intro w hSw;go_simp;try with_reducible rfl)
       try simp only [Act.put,zm,zl,zk]
       refine qN 16 (v:=?_) hS rfl (Or.inl ⟨by rfl,?_⟩) ?_;rotate_left
       ·(intro w hSw;go_simp;try with_reducible rfl)
       try simp only [Act.put,zm,zl,zk]
       refine qN 17 (v:=?_) hS rfl (Or.inl ⟨by rfl,?_⟩) ?_;rotate_left
       ·(intro w hSw;go_simp;try with_reducible rfl)
       try simp only [Act.put,zm,zl,zk]
       refine zbn 18 (by kernel_rfl) rfl (fun K hK=>?_);go_simp;go_at_call 102;(with_reducible refine (HMUL.out _).mono ?_);rintro e w9 ⟨rfl,hb9⟩;replace hrow':=zh hrow' hb9;have hca:=zF hb9 (Nat.lt_of_lt_of_le hb1 hzz') hca;have hcb:=zF hb9 (Nat.lt_of_lt_of_le hb2 hzz') hcb;replace hbl':=zu hbl' hb9 hbl'.size;have hzz':=hbl'.size;have hs1':w9.cell? ⟨w.heap.size,i+k,none⟩=some (.string (zj s)):=(hrow'.cell (i:=i+k) hik).trans (by unfold cvF;rw [HS.out]);have hs2':=hrow'.frozen (i+k);refine hK.out _ _ (fun _=>⟨hs1',hca,hcb⟩) (fun hS=>?_);replace hS:=hS (by decide);clear hK K;try simp only [Act.put,zm,zl,zk]
       refine zbn 19 (by kernel_rfl) rfl (fun K hK=>?_);go_simp;go_at_call 120;(with_reducible refine (HADD.out _).mono ?_);rintro e w9 ⟨rfl,hb9⟩;replace hrow':=zh hrow' hb9;have hca:=zF hb9 (Nat.lt_of_lt_of_le hb1 hzz') hca;have hcb:=zF hb9 (Nat.lt_of_lt_of_le hb2 hzz') hcb;replace hbl':=zu hbl' hb9 hbl'.size;have hzz':=hbl'.size;have hs1':w9.cell? ⟨w.heap.size,i+k,none⟩=some (.string (zj s)):=(hrow'.cell (i:=i+k) hik).trans (by unfold cvF;rw [HS.out]);have hs2':=hrow'.frozen (i+k);refine hK.out _ _ (fun _=>⟨hs1',hca,hcb⟩) (fun hS=>?_);replace hS:=hS (by decide);clear hK K;try simp only [Act.put,zm,zl,zk]
       refine qN 20 (v:=?_) hS rfl (Or.inl ⟨by rfl,?_⟩) ?_;rotate_left
       ·(intro w hSw;go_simp;try with_reducible rfl)
       try simp only [Act.put,zm,zl,zk]
       refine zbn 21 (by kernel_rfl) rfl (fun K hK=>?_);go_simp;refine hK.out _ _ (fun h=>absurd rfl h) (fun _=>?_);clear hK K;refine zfm (by kernel_rfl) ?_ _;go_wp2;go_roundw
       case rel =>
        refine ⟨k+1,by omega,by go_num,(hrow'.set (i+k) _).congr fun t _=>?_,hbl'.setCell (by simp) _⟩;unfold cvF;rw [HCV.out];split
        ·subst t;rw [HS.out]
        ·rw [Nat.add_zero]
       case measure=>simp [intOf];omega
      ·obtain rfl:k=b.length:=by omega
       have hrow2:wr.rowIs w.heap.size 9 (a.length+b.length) (cvF (yt a b (i+1))):=hrow;clear hrow;go_wp2;go_roundw
       case rel=>exact ⟨i+1,by omega,by go_num,hrow2,hbel⟩
       case measure=>simp [intOf];omega
    ·obtain rfl:i=a.length:=by omega
     have hszw:=hbel.size;have hrd:Rd wr wr.heap.size (some ⟨w.heap.size,0,none⟩) p.length (zS p):=(Rd.of_row hrow (by have:=HL.out;omega) hrow.lt).congr fun j _=>by unfold zS cvF;rw [HGET.out]
     have hrs:RdS wr wr.heap.size (some ⟨w.heap.size,0,none⟩) p:=⟨hrd,fun _ b o e=>by
      have:w.heap.size=b:=by injection e with e;injection e
      subst this;exact ⟨_,_,gp hrow⟩⟩
     have hpl:a.length+b.length=p.length:=HL.out.symm;have htr:=fun W h=>zid W (some ⟨w.heap.size,0,none⟩) (a.length+b.length) p (by omega) (by omega) h;rw [← hpl] at htr;have HTR:=za (htr wr (by rw [hpl];exact hrd));have HRD:=za hrs;clear hrow hilt hrd hrs htr hpl;go_wp2_with (go_at_call 181;(with_reducible refine HTR.out.mono ?_);rintro e w' ⟨rfl,rfl⟩)
     go_ret;exact ⟨_,_,rfl,by rw [zbf];have:=zgg p;have:=HL.out;omega,RdS.trimP HRD.out,hbel⟩
end Go.Proofs.YtoljkoifgnmbgaaGreatDoor
end
end
