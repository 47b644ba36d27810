import Derived.Test.YtmhllppjcilllaaGreatDoorN1
import Derived.Test.YtmhllppjcilllaaGreatDoorM1
import Derived.Test.YtmhllppjcilllaaGreatDoorS1
import Derived.Deep.CutRange
import Derived.Test.YtmhllppjcilllaaGreatDoorQ1
set_option linter.unusedSimpArgs false
set_option linter.unusedVariables false
set_option maxRecDepth 100000
set_option maxHeartbeats 1000000
section
section
open Go Go.RowKit Cs
namespace Cs
def dgs (V n:Nat):List Value:=(List.range n).map fun i=>.int .u8 ((48+dg 10 V i:Nat):Int)
theorem dgs_succ (V n:Nat):dgs V (n+1)=dgs V n++[.int .u8 ((48+dg 10 V n:Nat):Int)]:=by simp [dgs,List.range_succ]
theorem dgs_get (V n j:Nat) (h:j<n):(dgs V n)[j]?=some (.int .u8 ((48+dg 10 V j:Nat):Int)):=by simp [dgs,h]
end Cs
end
section
section
open Go Go.RowKit Cs
namespace Go.Proofs.YtmhllppjcilllaaGreatDoor
theorem zb5 (w:World) (V i:Nat) (hV:zz V≤1000000000) (hi:i≤1000000000):Calls Tryz.prog 155 #[.string (zc V),.int .i64 i] w fun e w'=>e = .returned (.int .i64 (dg 10 V i))∧w=w':=by
 have hs:=qS V;have hn:=pQ V;by_cases h:zz V≤i
 ·have hd:dg 10 V i=0:=jc 10 V i (by decide) (by omega);rw [hd];have ht:((zc V).size:Int)≤(i:Int):=by omega
  have HS:=zb hs;clear hs hd hn;go_enter Tryz.func155, Tryz.ntmps155;go_wp2;go_ret;exact ⟨rfl,rfl⟩
 ·have HG:Hid (∀ j (h:j<(zc V).size),((zc V)[j]'h).toNat=48+dg 10 V (zz V-1-j)):=fun j h=>zi0 V j h;obtain ⟨s,hse⟩:∃ s,s=zc V:=⟨_,rfl⟩;rw [← hse] at hs HG ⊢;clear hse;have hlt:=yS V i;obtain ⟨n,hn'⟩:∃ n,n=zz V:=⟨_,rfl⟩;rw [← hn'] at hs HG h hV;have hsz:s.size≤1000000000:=by omega
  have ht:¬ (s.size:Int)≤(i:Int):=by omega
  have hk1:(0:Int)≤(s.size:Int)-1-i:=by omega
  have hk2:(s.size:Int)-1-i<s.size:=by omega
  have hk3:s.size-1-i<s.size:=by omega
  have hg:=HG.out _ hk3;rw [show n-1-(s.size-1-i)=i by omega] at hg;have HK:=zb hg;clear hg;clear hs hn' hn;go_enter Tryz.func155, Tryz.ntmps155;go_wp2;go_ret;exact ⟨zgl (by rw [HK.out];omega),rfl⟩
def yk (V i:Nat):Value:=.int .i64 ((dg 10 V i:Nat):Int)
theorem rmk_u8 (n:Nat) (h:n≤1000000000) (u:World):(Instr.makeSlice 139 (.int .i64 0) (.int .i64 (n:Int))).run Tryz.prog u =
  .ok (.slice (some ⟨u.heap.size,0,none⟩) 0 n) (u.alloc (.cells (madeCells #[.int .u8 0] n) 5)):=by
 obtain ⟨i0,hi,hz0,hz1,hz2⟩:=info_parts zea;have hr:=run_make (P:=Tryz.prog) u 139 5 i0 _ Tryz.underlying139 hi hz0 .i64 .i64 0 n (by omega) (by omega) (by rw [hz2];omega) (by omega);simp only [Int.toNat_natCast,hz1,Nat.mul_one] at hr;exact hr
theorem pf (V n m:Nat) (hV:nd 10 V≤n) (hm:m≤n) (h1:1≤m) (hz:∀ i,m≤i→i<n→dg 10 V i=0) (h:m=1∨dg 10 V (m-1)≠0):m=zz V:=by
 have h2:nd 10 V≤m:=by
  rcases Nat.lt_or_ge m (nd 10 V) with hlt | hge
  ·have hp:0<V:=by
    rcases Nat.eq_zero_or_pos V with h' | h'
    ·rw [h',zcq] at hlt;omega
    ·exact h'
   have:=jJ 10 V (by decide) hp;rw [hz _ (by omega) (by omega)] at this;omega
  ·exact hge
 unfold zz;rcases h with h | h
 ·omega
 ·rcases Nat.lt_or_ge (m-1) (nd 10 V) with h3 | h3
  ·omega
  ·exact absurd (jc 10 V _ (by decide) h3) h
def xo (V m:Nat):List Value:=(List.range m).map fun t=>.int .u8 ((48+dg 10 V (zz V-1-t):Nat):Int)
theorem xj (V m:Nat):xo V (m+1)=xo V m++[.int .u8 ((48+dg 10 V (zz V-1-m):Nat):Int)]:=by simp [xo,List.range_succ]
theorem topd_str (V:Nat):strOfNums ((List.range (zz V)).map fun t=>((48+dg 10 V (zz V-1-t):Nat):Int))=zc V:=by
 unfold strOfNums zc pG;rw [List.map_map];rfl
theorem conv_dec (w:World) (g cap V base:Nat) (h:w.ownsRow base 5 1 (.slice (some ⟨g,0,none⟩) (zz V) cap) (zz V) (xo V (zz V))) :
  (convert 139 9 (.slice (some ⟨g,0,none⟩) (zz V) cap)).run Tryz.prog w = .ok (.string (zc V)) w:=by
 rw [← topd_str V];refine run_convert_bytes_arg (P:=Tryz.prog) w 139 5 Tryz.underlying139 Tryz.underlying5 g 0 (zz V) cap ((List.range (zz V)).map fun t=>((48+dg 10 V (zz V-1-t):Nat):Int)) (by simp)
  (fun i hi=>?_) 9 Tryz.underlying9
 rw [Nat.zero_add];refine zez h ?_;simp [xo,hi]
theorem zdd (w:World) (A:Addr) (n cap V:Nat) (hn0:1≤n) (hn:n≤100000000) (hV:nd 10 V≤n) (hA:Rd w w.heap.size (some A) n (yk V)) :
  Calls Tryz.prog 148 #[.slice (some A) n cap] w fun e w'=>e = .returned (.string (zc V))∧Below w.heap.size w w':=by
 obtain ⟨ti,hi,hz0,hz1,hz2⟩:=info_parts zea;obtain ⟨b,o,hA1,hbl,hc⟩:=hA (by omega);cases hA1
 have HC:=zb hc;clear hc hA;have HV:=zb hV;clear hV;go_enter Tryz.func148, Tryz.ntmps148;go_wp2
 go_loop [3] (fun t=>∃ m:Nat,1≤m∧m≤n∧t = .int .i64 m∧Hid (∀ i,m≤i→i<n→dg 10 V i=0)) (fun t=>(intOf t).toNat)
 case atStart=>exact ⟨n,hn0,zu _,rfl,fun i h1 h2=>by omega⟩
 case round =>
  obtain ⟨m,hm1,hm,rfl,hz⟩:=hrel;have hc:=HC.out (m-1) (by omega);unfold yk at hc;have fin:=pf V n m HV.out hm hm1 hz.out;have Hfin:=zb fin;clear fin;by_cases h:1<m∧dg 10 V (m-1)=0
  ·obtain ⟨h1,h0⟩:=h;have hb1:((dg 10 V (m-1):Int)==0)=true:=by simp [h0]
   have HB:=zb h0;clear h0;have i0:(0:Int)≤(m:Int)-1:=by omega
   have i1:(m:Int)-1<(n:Int):=by omega
   go_wp2
   go_round
   case rel =>
    refine ⟨m-1,by omega,by omega,by go_num,fun i hi1 hi2=>?_⟩;rcases Nat.eq_or_lt_of_le hi1 with e | e
    ·rw [← e];exact HB.out
    ·exact hz.out i (by omega) hi2
   case measure=>simp [intOf];omega
  ·have hm':m=zz V:=Hfin.out (by omega);have hmk:=rmk_u8 m (by omega);have HM:=zb hm';clear hm';have hd10:dg 10 V (m-1)<10:=yS _ _;have HD:=zb hc;clear hc Hfin;have hown:(w.alloc (.cells (madeCells #[.int .u8 0] m) 5)).ownsRow w.heap.size 5 1 (.slice (some ⟨w.heap.size,0,none⟩) 0 m) 0 []:=World.ownsRow_made w _ m (zu _) (by unfold maxLen;omega) (by simp [madeCells]);rcases Nat.lt_or_ge 1 m with h1 | h1
   all_goals (first
    | (have hb1:((dg 10 V (m-1):Int)==0)=false:=beq_eq_false_iff_ne.2 (by omega)
       have hc:=HD.out;have i0:(0:Int)≤(m:Int)-1:=by omega
       have i1:(m:Int)-1<(n:Int):=by omega
       clear h;go_wp2)
    | (clear h;go_wp2))
   all_goals
    clear h1;go_loopw [4,5] (fun out i wr=>∃ k:Nat,k≤m∧i = .int .i64 ((m:Int)-1-k)∧wr.ownsRow w.heap.size 5 1 out k (xo V k)∧Below w.heap.size w wr) (fun _ i _=>(intOf i+1).toNat)
    case atStart=>exact ⟨0,by omega,by simp,hown,(zx _ _).alloc (zu _) _⟩
    case round =>
     clear hown;obtain ⟨k,hk,rfl,hown,hbel⟩:=hrel;have hszw:=hbel.size;rcases Nat.lt_or_ge k m with hlt | hge
     ·have hck:=HC.out (m-1-k) (by omega);unfold yk at hck;have hck':=zB hbel hbl hck;have j0:(0:Int)≤(m:Int)-1-k:=by omega
      have j1:(m:Int)-1-k<(n:Int):=by omega
      have hd10:dg 10 V (m-1-k)<10:=yS _ _;have hlt0:∀ k,u4.ownBlock=some k→w.heap.size≤k:=fun k hk=>(hown.lt k hk).1;clear hck;go_wp2_with (at_builtin;go_loud (refine wpList_append_own _ rfl _ _ 139 rfl w.heap.size 5 ti (.int .u8 0) 1 1 Tryz.underlying139 hi hz0 hz1 hz2 rfl (by decide) _ _ _ rfl (hown.alloc _) ⟨wr.heap.size,0,none⟩ 1 1 [.int .u8 (48+(dg 10 V (m-1-k):Int))] rfl rfl pM zeU (by unfold maxLen;omega) (by omega) (by simp;omega) ?_;intro v' w3 hown3 hgr3 _))
      have hbel3:=(hbel.alloc hbel.size _).grown hgr3 (by have:=hbel.size;simp;omega) (fun k e=>hlt0 k e);have e1:(48:Int)+(dg 10 V (m-1-k):Int)=((48+dg 10 V (zz V-1-k):Nat):Int):=by rw [← HM.out];simp
      rw [e1,← xj] at hown3;go_wp2;go_roundw
      case rel=>exact ⟨k+1,by omega,by go_num,hown3,hbel3⟩
      case measure=>simp [intOf];omega
     ·obtain rfl:k=m:=by omega
      obtain ⟨go',cp,rfl,hgo1,hgo2⟩:=yX hown (by omega);have hcv:(convert 139 9 (.slice (some ⟨go',0,none⟩) k cp)).run Tryz.prog wr = .ok (.string (zc V)) wr:=by
       have h1:=HM.out;rw [h1] at hown ⊢;exact conv_dec wr go' cp V _ hown
      have hk0:((k:Int)==0)=false:=beq_eq_false_iff_ne.2 (by omega);go_wp2;go_ret;exact ⟨rfl,hbel⟩
end Go.Proofs.YtmhllppjcilllaaGreatDoor
end
section
open Go Go.RowKit Cs
namespace Go.Proofs.YtmhllppjcilllaaGreatDoor
def dgi (V n:Nat):List Value:=(List.range n).map (yk V)
theorem ze6 (V n:Nat):dgi V (n+1)=dgi V n++[.int .i64 ((dg 10 V n:Nat):Int)]:=by simp [dgi,yk,List.range_succ]
theorem ziy (V n j:Nat) (h:j<n):(dgi V n)[j]?=some (yk V j):=by simp [dgi,h]
theorem zeu (w:World) (a b:Nat) (ha:zz a≤10000000) (hb:zz b≤10000000) :
  Calls Tryz.prog 144 #[.string (zc a),.string (zc b)] w fun e w'=>e = .returned (.string (zc (a+b)))∧Below w.heap.size w w':=by
 obtain ⟨ti,hi,hz0,hz1,hz2⟩:=info_parts zdc;have hsa:=qS a;have hsb:=qS b;have hna:=pQ a;have hnb:=pQ b;have h1a:=ze9 a;have hda:=fun W i hi=>zb5 W a i (by omega) hi;have hdb:=fun W i hi=>zb5 W b i (by omega) hi;have hfm:=fun W A n cap h0 h1 h2 h3=>zdd W A n cap (a+b) h0 h1 h2 h3;obtain ⟨sa,hsa'⟩:∃ s,s=zc a:=⟨_,rfl⟩;obtain ⟨sb,hsb'⟩:∃ s,s=zc b:=⟨_,rfl⟩;rw [← hsa'] at hsa hda ⊢;rw [← hsb'] at hsb hdb ⊢;clear hsa' hsb';have HDA:=zb hda;have HDB:=zb hdb;have HF:=zb hfm;clear hda hdb hfm;have hza:sa.size≤10000000:=by omega
 have hzb:sb.size≤10000000:=by omega
 have hz1a:1≤sa.size:=by omega
 have hna':nd 10 a≤sa.size:=by omega
 have hnb':nd 10 b≤sb.size:=by omega
 clear ha hb hsa hsb hna hnb h1a;go_enter Tryz.func144, Tryz.ntmps144;go_wp2;go_loopw [5,6,7] (fun l c i wr=>∃ k:Nat,k≤max sa.size sb.size+1∧i = .int .i64 k∧c = .int .i64 (yh a b k)∧Hid (k=max sa.size sb.size+1→yh a b k=0)∧wr.ownsRow w.heap.size 3 1 l k (dgi (a+b) k)∧Below w.heap.size w wr)
  (fun _ _ i _=>20000002-(intOf i).toNat)
 case atStart=>exact ⟨0,by omega,rfl,by rw [cry_zero];rfl,fun h=>by omega,World.ownsRow_nil _ _ _ _,zx _ _⟩
 case round =>
  obtain ⟨k,hk,rfl,rfl,hend,hown,hbel⟩:=hrel;have hszw:=hbel.size;have hc1:=cry_le a b k;have da:=yS a k;have db:=yS b k;have hdg:=cry_dg a b k;have hcs:=zj7 a b k;have HDG:=zb hdg;have HCS:=zb hcs;clear hdg hcs;have hlt0:∀ k,u5.ownBlock=some k→w.heap.size≤k:=fun k hk=>(hown.lt k hk).1;by_cases hgo:k<sa.size∨k<sb.size∨0<yh a b k
  ·have hkm:k≤max sa.size sb.size:=by
    rcases Nat.lt_or_ge (max sa.size sb.size) k with h | h
    ·have:=hend.out (by omega);omega
    ·exact h
   have hend':Hid (k+1=max sa.size sb.size+1→yh a b (k+1)=0):=fun h=>cry_ge a b k (by omega) (by omega);have X1:Hid (((dg 10 a k:Int)+(dg 10 b k:Int)+(yh a b k:Int))%10=((dg 10 (a+b) k:Nat):Int)):=by
    have:=HDG.out;show _=_;omega
   have X2:Hid (((dg 10 a k:Int)+(dg 10 b k:Int)+(yh a b k:Int)) / 10=((yh a b (k+1):Nat):Int)):=by
    have:=HCS.out;show _=_;omega
   rcases Nat.lt_or_ge k sa.size with h1 | h1
   all_goals (try rcases Nat.lt_or_ge k sb.size with h2 | h2)
   all_goals (try (have h3:0<yh a b k:=by omega))
   all_goals clear hgo
   all_goals
    go_wp2_with (first
     | (go_at_call 155;(with_reducible refine (HDA.out _ k (by omega)).mono ?_);rintro e w' ⟨rfl,rfl⟩)
     | (go_at_call 155;(with_reducible refine (HDB.out _ k (by omega)).mono ?_);rintro e w' ⟨rfl,rfl⟩)
     | (at_builtin;go_loud (refine wpList_append_own _ rfl _ _ 26 rfl w.heap.size 3 ti (.int .i64 0) 1 8 Tryz.underlying26 hi hz0 hz1 hz2 rfl (by decide) _ _ _ rfl (hown.alloc _) ⟨wr.heap.size,0,none⟩ 1 1 [.int .i64 (((dg 10 a k:Int)+(dg 10 b k:Int)+(yh a b k:Int))%10)] rfl rfl pM zeU (by unfold maxLen;omega) (by omega) (by simp;omega) ?_;intro v' w3 hown3 hgr3 _)))
    have hbel3:=(hbel.alloc hbel.size _).grown hgr3 (by simp;omega) (fun k e=>hlt0 k e);rw [X1.out,← ze6] at hown3;go_roundw
    case rel=>exact ⟨k+1,by omega,by go_num,by rw [X2.out],hend',hown3,hbel3⟩
    case measure=>simp [intOf];omega
  ·have h1:sa.size≤k:=by omega
   have h2:sb.size≤k:=by omega
   have h3:yh a b k=0:=by omega
   have hnd:nd 10 (a+b)≤k:=cry_end a b k (by omega) (by omega) h3;have h4:¬ 0<(yh a b k:Int):=by omega
   obtain ⟨go',cp,rfl,hgo1,hgo2⟩:=yX hown (by omega);have hrd:Rd wr wr.heap.size (some ⟨go',0,none⟩) k (yk (a+b)):=Rd.of_own hown fun i hi=>ziy _ _ _ hi;have HR:=zb hrd;have hk2:k≤10000001:=by omega
   have hk1:1≤k:=by omega
   clear hgo h3 hrd hown;go_wp2_with (go_at_call 148;(with_reducible refine (HF.out _ _ k cp hk1 (by omega) hnd HR.out).mono ?_);rintro e w' ⟨rfl,hb9⟩)
   go_ret;exact ⟨rfl,zw hbel hb9 hszw⟩
end Go.Proofs.YtmhllppjcilllaaGreatDoor
end
end
section
section
open Go Go.RowKit Cs
namespace Go.Proofs.YtmhllppjcilllaaGreatDoor
theorem zie (n:Nat) (h:n≤1000000000) (u:World):(Instr.makeSlice 26 (.int .i64 (n:Int)) (.int .i64 (n:Int))).run Tryz.prog u =
  .ok (.slice (some ⟨u.heap.size,0,none⟩) n n) (u.alloc (.cells (madeCells #[.int .i64 0] n) 3)):=by
 obtain ⟨i0,hi,hz0,hz1,hz2⟩:=info_parts zdc;exact run_make_row 26 3 i0 (.int .i64 0) Tryz.underlying26 hi hz0 hz1 rfl .i64 .i64 n (by rw [hz2];omega) (by omega) u
def mxF (T P m j:Nat):Value:=.int .i64 ((mxd T P m j:Nat):Int)
theorem zbJ (w:World) (a b:Nat) (ha:zz a≤10000000) (hb:zz b≤10000000) :
  Calls Tryz.prog 115 #[.string (zc a),.string (zc b)] w fun e w'=>e = .returned (.string (zc (a*b)))∧Below w.heap.size w w':=by
 have hsa:=qS a;have hsb:=qS b;have hna:=pQ a;have hnb:=pQ b;have hda:=fun W i hi=>zb5 W a i (by omega) hi;have hdb:=fun W i hi=>zb5 W b i (by omega) hi;have hfm:=fun W A n cap h0 h1 h2 h3=>zdd W A n cap (a*b) h0 h1 h2 h3;obtain ⟨sa,hsa'⟩:∃ s,s=zc a:=⟨_,rfl⟩;obtain ⟨sb,hsb'⟩:∃ s,s=zc b:=⟨_,rfl⟩;rw [← hsa'] at hsa hda ⊢;rw [← hsb'] at hsb hdb ⊢;clear hsa' hsb';have HDA:=zb hda;have HDB:=zb hdb;have HF:=zb hfm;clear hda hdb hfm;have hza:sa.size≤10000000:=by omega
 have hzb:sb.size≤10000000:=by omega
 have hna':nd 10 a≤sa.size:=by omega
 have hnb':nd 10 b≤sb.size:=by omega
 clear ha hb hsa hsb hna hnb;have hmk:=zie (sa.size+sb.size+1) (by omega);rw [Int.natCast_add,Int.natCast_add,Int.natCast_one] at hmk;go_enter Tryz.func115, Tryz.ntmps115;go_wp2;go_loopw [6] (fun t wr=>∃ i:Nat,i≤sa.size∧t = .int .i64 i∧wr.rowIs w.heap.size 3 (sa.size+sb.size+1) (yk (mP a b i))∧Below w.heap.size w wr) (fun t _=>sa.size-(intOf t).toNat)
 case atStart =>
  refine ⟨0,by omega,rfl,pS _ _ _ _ _ rfl (fun i _=>?_),(zx _ _).alloc (zu _) _⟩;unfold yk;rw [mP_zero];simp [dg]
 case round =>
  obtain ⟨i,hi,rfl,hrow,hbel⟩:=hrel;by_cases hlt:i<sa.size
  ·obtain ⟨d,hd⟩:∃ d,dg 10 a i=d:=⟨_,rfl⟩;have hd9:d≤9:=by have:=yS a i;omega
   obtain ⟨P,hP⟩:∃ P,mP a b i=P:=⟨_,rfl⟩;have hPs:=gR a b i;have hend:=mP_mc a b i sb.size hnb';rw [hP,hd] at hend hPs;rw [hP] at hrow;have HD:=zb hd;have HPS:=zb hPs;have HEND:=zb hend;clear hd hP hPs hend;have hrow0:wr.rowIs w.heap.size 3 (sa.size+sb.size+1) (mxF (mT P d b i 0) P (i+0)):=hrow.congr fun j _=>by unfold mxF yk;rw [mxd_zero]
   clear hrow;obtain ⟨W0,rfl⟩:∃ W0,W0=wr:=⟨wr,rfl⟩;go_wp2;go_loopw [7,8] (fun c t wq=>∃ k:Nat,k≤sb.size+1∧t = .int .i64 k∧c = .int .i64 (mc P d b i k)∧Hid (k=sb.size+1→mc P d b i k=0)∧wq.rowIs w.heap.size 3 (sa.size+sb.size+1) (mxF (mT P d b i k) P (i+k))∧Below w.heap.size w wq) (fun _ t _=>sb.size+1-(intOf t).toNat)
   case atStart=>exact ⟨0,by omega,rfl,by rw [mc_zero];rfl,fun h=>by omega,hrow0,hbel⟩
   case round =>
    clear hrow0 hbel;obtain ⟨k,hk,rfl,rfl,hke,hrow,hbel⟩:=hrel;have hc9:=mc_le P d b i k hd9;by_cases hgo:k<sb.size∨0<mc P d b i k
    ·have hkm:k≤sb.size:=by
      rcases Nat.lt_or_ge sb.size k with h | h
      ·have:=hke.out (by omega);omega
      ·exact h
     have hke':Hid (k+1=sb.size+1→mc P d b i (k+1)=0):=fun h=>by
      have e:k=sb.size:=by omega
      rw [e];exact HEND.out
     have hcell:=hrow.cell (i:=i+k) (by omega);have hfr:=hrow.frozen (i+k);unfold mxF at hcell;rw [mxd_here] at hcell;obtain ⟨p,hp⟩:∃ p,dg 10 P (i+k)=p:=⟨_,rfl⟩;obtain ⟨e,he⟩:∃ e,dg 10 b k=e:=⟨_,rfl⟩;have hp9:p≤9:=by have:=yS P (i+k);omega
     have he9:e≤9:=by have:=yS b k;omega
     have hq81:d*e≤81:=Nat.mul_le_mul hd9 he9;have hsucc:=mc_succ P d b i k;have hnext:=fun j=>mxd_succ P d b i k j;rw [hp,he] at hsucc;simp only [hp,he] at hnext;rw [hp] at hcell;obtain ⟨c,hc⟩:∃ c,mc P d b i k=c:=⟨_,rfl⟩;rw [hc] at hsucc hc9 hgo ⊢;simp only [hc] at hnext;obtain ⟨q,hq⟩:∃ q,d*e=q:=⟨_,rfl⟩;rw [hq] at hsucc hq81;simp only [hq] at hnext;have hmul:IntKind.i64.wrap ((d:Int)*(e:Int))=(q:Int):=by
      rw [← Int.natCast_mul,hq,IntKind.wrap_i64];omega
     have X1:Hid (((p:Int)+(q:Int)+(c:Int))%10=(((p+q+c)%10:Nat):Int)):=by show _=_;omega
     have X2:Hid (((p:Int)+(q:Int)+(c:Int)) / 10=((mc P d b i (k+1):Nat):Int)):=by rw [← hsucc];show _=_;omega
     have HNX:=zb hnext;have HDA':Hid (∀ W,Calls Tryz.prog 155 #[.string sa,.int .i64 i] W fun e w'=>e = .returned (.int .i64 d)∧W=w'):=fun W=>by
      have:=HDA.out W i (by omega);rw [HD.out] at this;exact this
     have HDB':Hid (∀ W,Calls Tryz.prog 155 #[.string sb,.int .i64 k] W fun e' w'=>e' = .returned (.int .i64 e)∧W=w'):=fun W=>by
      have:=HDB.out W k (by omega);rw [he] at this;exact this
     clear hnext hsucc hc hq he hp;have hik1:(0:Int)≤(i:Int)+(k:Int):=by omega
     have hik2:(i:Int)+(k:Int)<(sa.size:Int)+(sb.size:Int)+1:=by omega
     have hik3:i+k<sa.size+sb.size+1:=by omega
     have hwr:IntKind.i64.wrap ((i:Int)+(k:Int))=(i:Int)+(k:Int):=by rw [IntKind.wrap_i64];omega
     have htn:((i:Int)+(k:Int)).toNat=i+k:=by omega
     rcases Nat.lt_or_ge k sb.size with h1 | h1
     all_goals (try (have h3:0<c:=by omega))
     all_goals clear hgo
     all_goals
      have hcell':=hrow.drew.cell (i:=i+k) hik3;have hfr':=hrow.drew.frozen (i+k);have HS:Hid (mxF (mT P d b i k) P (i+k) (i+k) = .int .i64 (p:Int)):=zb (by have:=(hrow.cell (i:=i+k) hik3).symm.trans hcell;injection this);rw [HS.out] at hcell';go_wp2_with fail
      go_region_held3 (fun w'=>w'.cell? ⟨w.heap.size,i+k,none⟩=some (.int .i64 (p:Int))) (first | exact hcell' | go_keep)
       (first
         | (go_simp
            go_at_call_of 155 (Value.string sa)
            (with_reducible refine (HDA'.out _).mono ?_);rintro e' w9 ⟨rfl,rfl⟩)
         | (go_simp
            go_at_call_of 155 (Value.string sb)
            (with_reducible refine (HDB'.out _).mono ?_);rintro e' w9 ⟨rfl,rfl⟩))
      go_wp2;rw [X1.out,X2.out];go_roundw
      case rel =>
       refine ⟨k+1,by omega,by go_num,rfl,hke',(hrow.drew.set (i+k) _).congr fun j _=>?_,qV hbel 1 |>.setCell (by simp) _⟩;unfold mxF;rw [HNX.out];split
       ·rfl
       ·rfl
      case measure=>simp [intOf];omega
    ·have h1:sb.size≤k:=by omega
     have h3:¬ 0<(mc P d b i k:Int):=by omega
     have hfin:Hid (∀ j,mxd (mT P d b i k) P (i+k) j=dg 10 (mP a b (i+1)) j):=fun j=>by rw [HPS.out];exact mxd_end P d b i k j (by omega) (by omega)
     have hrow':=hrow.congr (g:=yk (mP a b (i+1))) fun j _=>by unfold mxF yk;rw [hfin.out]
     clear hgo hrow;go_wp2;go_roundw
     case rel=>exact ⟨i+1,by omega,by go_num,hrow',hbel⟩
     case measure=>simp [intOf];omega
  ·obtain rfl:i=sa.size:=by omega
   rw [mP_end a b _ (by omega)] at hrow;have hndm:nd 10 (a*b)≤sa.size+sb.size+1:=by have:=jE 10 (by decide) a b;omega
   have hrd:Rd wr wr.heap.size (some ⟨w.heap.size,0,none⟩) (sa.size+sb.size+1) (yk (a*b)):=Rd.of_row hrow (zu _) hrow.lt;have HR:=zb hrd;have hszw:=hbel.size;clear hrd hrow;go_wp2_with (go_at_call 148;(with_reducible refine (HF.out _ _ _ _ (by omega) (by omega) hndm HR.out).mono ?_);rintro e w' ⟨rfl,hb9⟩)
   go_ret;exact ⟨rfl,zw hbel hb9 hszw⟩
end Go.Proofs.YtmhllppjcilllaaGreatDoor
end
section
namespace Cs
open Go
def tl (V m:Nat):List UInt8:=(List.range m).map fun t=>UInt8.ofNat (48+dg 10 V (m-1-t))
theorem j5 (V m:Nat):tl V (m+1)=UInt8.ofNat (48+dg 10 V m)::tl V m:=by
 unfold tl;rw [List.range_succ_eq_map,List.map_cons,List.map_map];congr 1;apply List.map_congr_left;intro t _;show UInt8.ofNat (48+dg 10 V (m+1-1-(t+1)))=_;rw [show m+1-1-(t+1)=m-1-t by omega]
theorem dec_tl (V:Nat):(zc V).data.toList=tl V (zz V):=rfl
theorem dgc_lt (a b:Nat) (ha:a<10) (hb:b<10):(UInt8.ofNat (48+a)<UInt8.ofNat (48+b))↔a<b:=by
 rw [UInt8.lt_iff_toNat_lt,UInt8.toNat_ofNat',UInt8.toNat_ofNat'];omega
theorem dgc_eq (a b:Nat) (ha:a<10) (hb:b<10):(UInt8.ofNat (48+a)=UInt8.ofNat (48+b))↔a=b:=by
 constructor
 ·intro h;have:=congrArg UInt8.toNat h;rw [UInt8.toNat_ofNat',UInt8.toNat_ofNat'] at this;omega
 ·intro h;rw [h]
theorem gX (V B:Nat):∀ m,Op.bytesLess (tl V m) (tl B m)=decide (V%10^m<B%10^m)
 | 0=>by simp [tl,Op.bytesLess,Nat.mod_one]
 | m+1=>by
   have ih:=gX V B m;have h1:=yS V m;have h2:=yS B m;have h3:=Nat.mod_lt V (jj m);have h4:=Nat.mod_lt B (jj m);rw [j5,j5,pV,pV];unfold Op.bytesLess;by_cases h:dg 10 V m=dg 10 B m
   ·rw [h,ih];simp
   ·have hne:¬ UInt8.ofNat (48+dg 10 V m)=UInt8.ofNat (48+dg 10 B m):=fun e=>h ((dgc_eq _ _ h1 h2).1 e);by_cases hl:dg 10 V m<dg 10 B m
    ·have e:V%10^m+10^m*dg 10 V m<B%10^m+10^m*dg 10 B m:=by
      have:10^m*(dg 10 V m+1)≤10^m*dg 10 B m:=Nat.mul_le_mul_left _ hl;rw [Nat.mul_add] at this;omega
     have hlt:=(dgc_lt _ _ h1 h2).2 hl;rw [decide_eq_true hlt,decide_eq_true e];rfl
    ·have e:¬ V%10^m+10^m*dg 10 V m<B%10^m+10^m*dg 10 B m:=by
      have:10^m*(dg 10 B m+1)≤10^m*dg 10 V m:=Nat.mul_le_mul_left _ (by omega);rw [Nat.mul_add] at this;omega
     have hl':¬ UInt8.ofNat (48+dg 10 V m)<UInt8.ofNat (48+dg 10 B m):=fun e=>hl ((dgc_lt _ _ h1 h2).1 e);rw [decide_eq_false hl',decide_eq_false e,beq_eq_false_iff_ne.2 hne];rfl
theorem zjx (V B:Nat) (h:zz V=zz B):Op.bytesLess (zc V).data.toList (zc B).data.toList=decide (V<B):=by
 rw [dec_tl,dec_tl,h,gX,Nat.mod_eq_of_lt,Nat.mod_eq_of_lt]
 ·exact (zbM B _).1 (pQ B)
 ·rw [← h];exact (zbM V _).1 (pQ V)
theorem oU {a b:Nat} (h:a≤b):zz a≤zz b:=by
 have:=zeV 10 (by decide) h;unfold zz;omega
theorem decN_is (X n:Nat) (h1:10^n≤X) (h2:X+1≤10^(n+1)):zz X=n+1:=by
 have h3:=zec X (n+1) h2 (by omega);have h4:n<nd 10 X:=by
  rcases Nat.lt_or_ge n (nd 10 X) with h | h
  ·exact h
  ·have:=(zbM X n).1 h;exact absurd this (Nat.not_lt.2 h1)
 have h5:=pQ X;exact Nat.le_antisymm h3 (Nat.le_trans h4 h5)
theorem zdL:zz zR=1234:=by
 rw [zdO];exact decN_is _ 1233 (Nat.le_of_ble_eq_true (by kernel_rfl)) (Nat.le_of_ble_eq_true (by kernel_rfl))
end Cs
end
section
open Go Go.RowKit Cs
namespace Go.Proofs.YtmhllppjcilllaaGreatDoor
theorem pj (n:Nat) (h:n≤4096):zz (2^n)≤1234:=by
 rw [← zdL,zdO];exact oU (Nat.pow_le_pow_right (by decide) (by rw [zcr];exact h))
theorem zg7:zc 1=⟨#[49]⟩:=by decide +kernel
theorem zhj (w:World) (n:Nat) (hn:n≤4096):Calls Tryz.prog 163 #[.int .i64 n] w fun e w'=>e = .returned (.string (zc (2^n)))∧Below w.heap.size w w':=by
 have hdb:∀ k,k≤n→zz (2^k)≤10000000:=fun k hk=>by have:=pj k (by omega);omega
 have hadd:=fun W k hk=>zeu W (2^k) (2^k) (hdb k hk) (hdb k hk);have hdbl:∀ k,2^k+2^k=2^(k+1):=fun k=>by rw [Nat.pow_succ];omega
 have h1:=zg7;have HADD:=zb hadd;have HDBL:=zb hdbl;have H1:=zb h1;clear hdb hadd hdbl h1;go_enter Tryz.func163, Tryz.ntmps163;go_wp2;go_loopw [3,4] (fun s t wr=>∃ k:Nat,k≤n∧t = .int .i64 k∧Hid (s = .string (zc (2^k)))∧Below w.heap.size w wr) (fun _ t _=>n-(intOf t).toNat)
 case atStart=>exact ⟨0,by omega,rfl,by show _=_;rw [Nat.pow_zero,H1.out],zx _ _⟩
 case round =>
  obtain ⟨k,hk,rfl,hs,hbel⟩:=hrel;have hszw:=hbel.size;obtain rfl:=hs.out;clear hs;by_cases hlt:k<n
  ·go_wp2_with (go_at_call 144;(with_reducible refine (HADD.out _ k (by omega)).mono ?_);rintro e w' ⟨rfl,hb9⟩)
   go_roundw
   case rel=>exact ⟨k+1,by omega,by go_num,by show _=_;rw [HDBL.out],zw hbel hb9 hszw⟩
   case measure=>simp [intOf];omega
  ·obtain rfl:k=n:=by omega
   go_wp2;go_ret;exact ⟨rfl,hbel⟩
theorem gz (w:World) (a b:ByteArray) (h:a.size=b.size) (hl:Op.bytesLess a.toList b.toList=true):Calls Tryz.prog 170 #[.string a,.string b] w fun e w'=>e = .returned (.int .i64 (-1))∧w=w':=by
 have hi:a.size≤b.size:=by omega
 have hj:b.size≤a.size:=by omega
 clear h;go_enter Tryz.func170, Tryz.ntmps170;go_wp2;all_goals go_ret
 all_goals exact ⟨rfl,rfl⟩
def Some0 (w:World) (e:Ending) (w':World):Prop:=∃ r:Int,0≤r∧r≤1∧e = .returned (.int .i64 r)∧w=w'
theorem rcmp_ge (w:World) (a b:ByteArray) (h:a.size=b.size) (hl:Op.bytesLess a.toList b.toList=false):Calls Tryz.prog 170 #[.string a,.string b] w (Some0 w):=by
 have hi:a.size≤b.size:=by omega
 have hj:b.size≤a.size:=by omega
 clear h;go_enter Tryz.func170, Tryz.ntmps170;go_wp2;all_goals go_ret
 all_goals exact ⟨_,by decide,by decide,rfl,rfl⟩
end Go.Proofs.YtmhllppjcilllaaGreatDoor
end
end
end
section
section
section
open Go Go.RowKit Cs
namespace Go.Proofs.YtmhllppjcilllaaGreatDoor
theorem zg8 (x:Nat):((zc x).toList=[48])↔x=0:=by
 constructor
 ·intro h;apply zdv;rw [pU];apply ByteArray.ext;apply Array.ext';have e:(zc x).toList=(zc x).data.toList:=ByteArray.toList_eq _;rw [← e,h]
 ·intro h;subst h;rw [pU,ByteArray.toList_eq]
theorem info_str:(Tryz.prog.info? 9).map (fun i=>(i.zero,i.size,i.bytes))=some (some (.string ⟨#[]⟩),1,16):=by kernel_rfl
end Go.Proofs.YtmhllppjcilllaaGreatDoor
end
end
end
