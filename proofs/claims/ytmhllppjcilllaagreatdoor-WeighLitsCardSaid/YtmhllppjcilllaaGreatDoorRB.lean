import Derived.Test.YtmhllppjcilllaaGreatDoorV1
import Derived.Test.YtmhllppjcilllaaGreatDoorN4
import Derived.Test.YtmhllppjcilllaaGreatDoorS1
import Derived.Laws.AppendOwn
set_option linter.unusedSimpArgs false
set_option linter.unusedVariables false
set_option maxRecDepth 100000
set_option maxHeartbeats 2000000
section
section
open Go Go.RowKit Cs
namespace Go.Proofs.YtmhllppjcilllaaGreatDoor
theorem ziT (w:World) (l:Int) (h1 : -9223372036854775808≤l) (h2:l≤9223372036854775807):Calls Tryz.prog 175 #[.int .i64 l] w fun e w'=>e = .returned (.int .i64 (zQ l))∧w=w':=by
 have hv:zQ l=if 1≤l∧l≤128 then l else if l≤-1∧-128≤l then -l else 0:=rfl
 by_cases a:1≤l∧l≤128
 ·rw [if_pos a] at hv;obtain ⟨a1,a2⟩:=a;rw [hv];clear hv;go_enter Tryz.func175, Tryz.ntmps175;go_wp2;go_ret;exact ⟨rfl,rfl⟩
 ·rw [if_neg a] at hv;by_cases b:l≤-1∧-128≤l
  ·rw [if_pos b] at hv;obtain ⟨b1,b2⟩:=b;have a1:¬ 1≤l:=by omega
   rw [hv];clear hv a;go_enter Tryz.func175, Tryz.ntmps175;go_wp2;go_ret;exact ⟨rfl,rfl⟩
  ·rw [if_neg b] at hv;rw [hv];clear hv;have hc:(l=0)∨(128<l)∨(l < -128):=by omega
   clear a b;rcases hc with rfl | hc | hc
   all_goals
    go_enter Tryz.func175, Tryz.ntmps175;go_wp2;go_ret;exact ⟨rfl,rfl⟩
theorem zka (w:World) (l n:Int) (h1 : -9223372036854775808≤l) (h2:l≤9223372036854775807):Calls Tryz.prog 174 #[.int .i64 l,.int .i64 n] w fun e w'=>e = .returned (.bool (qh l n))∧w=w':=by
 have hv:=fun W=>ziT W l h1 h2;have hb:=zdH l;have he:qh l n=(decide (0<zQ l)&&decide (zQ l≤n)):=by
  unfold qh;rw [Bool.eq_iff_iff];simp;intro _;omega
 rw [he];clear he;obtain ⟨v,hv'⟩:∃ v,zQ l=v:=⟨_,rfl⟩;rw [hv'] at hb ⊢;simp only [hv'] at hv;have HV:=zb hv;clear hv hv';rcases Int.lt_or_le 0 v with h | h
 ·rw [decide_eq_true h,Bool.true_and];go_enter Tryz.func174, Tryz.ntmps174;go_wp2_with (go_at_call 175;(with_reducible refine (HV.out _).mono ?_);rintro e w' ⟨rfl,rfl⟩)
  go_ret;exact ⟨rfl,rfl⟩
 ·rw [decide_eq_false (by omega),Bool.false_and];go_enter Tryz.func174, Tryz.ntmps174;go_wp2_with (go_at_call 175;(with_reducible refine (HV.out _).mono ?_);rintro e w' ⟨rfl,rfl⟩)
  go_ret;exact ⟨rfl,rfl⟩
theorem ox (x k:Nat):((((x:Nat):Int) / 2^k).tmod 2==1)=x.testBit k:=by
 have e:((x:Nat):Int) / 2^k=((x / 2^k:Nat):Int):=by rw [Int.natCast_ediv,Int.natCast_pow];rfl
 have e2:(((x / 2^k:Nat):Int)).tmod 2=((x / 2^k%2:Nat):Int):=(Int.ofNat_tmod _ 2).symm;rw [e,e2,Nat.testBit_eq_decide_div_mod_eq,Bool.eq_iff_iff];simp;omega
theorem gj (w:World) (s v:Nat) (h1:1≤v) (h2:v≤128):Calls Tryz.prog 162 #[qm s,.int .i64 v] w fun e w'=>e = .returned (.bool (s.testBit (v-1)))∧Below w.heap.size w w':=by
 have hlo:=jO s (v-1);have hhi:=jN s (v-65);have l1:=yO s;have l2:=yN s;rcases Nat.lt_or_ge 64 v with h | h
 ·have hq:((v:Int)-1) / 64=1:=by omega
  have hr:((v:Int)-1)%64=(v:Int)-65:=by omega
  have i0:(0:Int)≤(v:Int)-65:=by omega
  have i1:(v:Int)-65<64:=by omega
  have hb:=ox (hi s) (v-65);rw [hhi,show v-65+64=v-1 by omega,decide_eq_true (by omega),Bool.true_and] at hb;have HB:=zb hb;clear hlo hhi hb;go_enter Tryz.func162, Tryz.ntmps162;go_wp2;go_ret;exact ⟨congrArg (fun b=>Ending.returned (.bool b)) HB.out,(zx _ _).alloc (zu _) _⟩
 ·have hq:((v:Int)-1) / 64=0:=by omega
  have hr:((v:Int)-1)%64=(v:Int)-1:=by omega
  have i0:(0:Int)≤(v:Int)-1:=by omega
  have i1:(v:Int)-1<64:=by omega
  have hb:=ox (lo s) (v-1);rw [hlo,decide_eq_true (by omega),Bool.true_and] at hb;have HB:=zb hb;clear hlo hhi hb;go_enter Tryz.func162, Tryz.ntmps162;go_wp2;go_ret;exact ⟨congrArg (fun b=>Ending.returned (.bool b)) HB.out,(zx _ _).alloc (zu _) _⟩
end Go.Proofs.YtmhllppjcilllaaGreatDoor
end
section
open Go Go.RowKit Cs
namespace Go.Proofs.YtmhllppjcilllaaGreatDoor
theorem zih (w:World) (x:Nd) (n before:Int) (A:Option Addr) (c:Nat) (hlen:x.ins.length≤140737488355328) (hr:Rd w w.heap.size A x.ins.length (zO x.ins)) (hrl:zT x.lit) :
  Calls Tryz.prog 159 #[ndV x A c,.int .i64 n,.int .i64 before] w fun e w'=>e = .returned (.bool (qk x n before))∧Below w.heap.size w w':=by
 obtain ⟨kind,lit,ins⟩:=x;simp only at hlen hr hrl;obtain ⟨hl1,hl2⟩:=hrl;have hbl:Below w.heap.size w (w.alloc (.cells #[.int .i64 kind,.int .i64 lit,.slice A ins.length c] 66)):=(zx _ _).alloc (zu _) _;have hr':=hr.below hbl;have hlv:=fun W=>zka W lit n hl1 hl2;have HLV:=zb hlv;clear hlv hr;obtain ⟨p,hp⟩:∃ p:Int→Bool,p=fun i=>decide (i<0)||decide (before≤i):=⟨_,rfl⟩;have HP:=zb hp;have hfT:ins.any p=true→qk ⟨kind,lit,ins⟩ n before=false:=fun h=>by unfold qk;simp only;rw [← hp,if_pos h]
 have hfF:ins.any p=false→qk ⟨kind,lit,ins⟩ n before=if kind=0∨kind=1 then decide (lit=0)&&decide (ins.length=0) else if kind=2 then qh lit n&&decide (ins.length=0) else if kind=3∨kind=4 then decide (lit=0) else false:=fun h=>by
  unfold qk;simp only;rw [← hp,if_neg (by rw [h];decide)]
 have HFT:=zb hfT;have HFF:=zb hfF;clear hp hfT hfF;generalize qk ⟨kind,lit,ins⟩ n before=F at *
 go_enter Tryz.func159, Tryz.ntmps159;go_wp2
 go_loop [7] (fun t=>∃ k:Nat,k≤ins.length∧t = .int .i64 k∧Hid ((ins.take k).any p=false)) (fun t=>ins.length-(intOf t).toNat)
 case atStart=>exact ⟨0,by omega,rfl,rfl⟩
 case round =>
  obtain ⟨k,hk,rfl,HK⟩:=hrel;by_cases hlt:k<ins.length
  ·obtain ⟨b,o,rfl,hb,hcs⟩:=hr' (by omega);have hc:=hcs k hlt;unfold zO at hc;have hg:ins.getD k 0=ins[k]:=by simp [List.getD,hlt]
   rw [hg] at hc;have ht:ins.take (k+1)=ins.take k++[ins[k]]:=List.take_succ_eq_append_getElem hlt;have hmem:ins[k]∈ins:=List.getElem_mem hlt;obtain ⟨y,hy⟩:∃ y,ins[k]=y:=⟨_,rfl⟩;rw [hy] at hc ht hmem;have HT:=zb ht;have hbad:(y<0∨before≤y)→F=false:=fun h=>HFT.out (List.any_eq_true.2 ⟨y,hmem,by rw [HP.out];simpa using h⟩);have HB:=zb hbad;clear hg ht hy hcs hbad hr' hmem;by_cases h1:y<0
   ·go_wp2;go_ret;exact ⟨by rw [HB.out (.inl h1)];try (first | rfl | simp),hbl⟩
   ·by_cases h2:before≤y
    ·go_wp2;go_ret;exact ⟨by rw [HB.out (.inr h2)];try (first | rfl | simp),hbl⟩
    ·go_wp2
     go_round
     case rel =>
      refine ⟨k+1,by omega,by go_num,?_⟩;show _=_;rw [HT.out,List.any_append,HK.out,HP.out];simp;omega
     case measure=>simp [intOf];omega
  ·obtain rfl:k=ins.length:=by omega
   have hf:=HFF.out (by have:=HK.out;rwa [List.take_length] at this);have HF:=zb hf;clear hf hr' HK HFF HFT HP;have hnil:(decide (ins.length=0))=((ins.length:Int)==0):=by rw [Bool.eq_iff_iff];simp
   have hlz:(decide (lit=0))=(lit==0):=by rw [Bool.eq_iff_iff];simp
   rw [hnil,hlz] at HF;clear hnil hlz;have hk:kind=0∨kind=1∨kind=2∨(kind=3∨kind=4)∨(kind≠0∧kind≠1∧kind≠2∧kind≠3∧kind≠4):=by omega
   rcases hk with rfl | rfl | rfl | hk | ⟨k0,k1,k2,k3,k4⟩
   ·have hF:F=(lit==0&&((ins.length:Int)==0)):=by rw [HF.out,if_pos (.inl rfl)]
    cases hl:(lit==0)
    ·rw [hl,Bool.false_and] at hF;have HF2:=zb hF;clear hF;go_wp2;go_ret;exact ⟨by rw [HF2.out];try (first | rfl | simp),hbl⟩
    ·rw [hl,Bool.true_and] at hF;have HF2:=zb hF;clear hF;go_wp2;go_ret;exact ⟨by rw [HF2.out];try (first | rfl | simp),hbl⟩
   ·have hF:F=(lit==0&&((ins.length:Int)==0)):=by rw [HF.out,if_pos (.inr rfl)]
    cases hl:(lit==0)
    ·rw [hl,Bool.false_and] at hF;have HF2:=zb hF;clear hF;go_wp2;go_ret;exact ⟨by rw [HF2.out];try (first | rfl | simp),hbl⟩
    ·rw [hl,Bool.true_and] at hF;have HF2:=zb hF;clear hF;go_wp2;go_ret;exact ⟨by rw [HF2.out];try (first | rfl | simp),hbl⟩
   ·have hF:F=(qh lit n&&((ins.length:Int)==0)):=by rw [HF.out,if_neg (by omega),if_pos rfl]
    cases hl:qh lit n
    ·rw [hl,Bool.false_and] at hF;rw [hl] at HLV;have HF2:=zb hF;clear hF;go_wp2_with (go_at_call 174;(with_reducible refine (HLV.out _).mono ?_);rintro e w' ⟨rfl,rfl⟩)
     go_ret;exact ⟨by rw [HF2.out];try (first | rfl | simp),hbl⟩
    ·rw [hl,Bool.true_and] at hF;rw [hl] at HLV;have HF2:=zb hF;clear hF;go_wp2_with (go_at_call 174;(with_reducible refine (HLV.out _).mono ?_);rintro e w' ⟨rfl,rfl⟩)
     go_ret;exact ⟨by rw [HF2.out];try (first | rfl | simp),hbl⟩
   ·have hF:F=(lit==0):=by rw [HF.out,if_neg (by omega),if_neg (by omega),if_pos hk]
    have HF2:=zb hF;clear hF;rcases hk with rfl | rfl
    all_goals
     go_wp2;go_ret;exact ⟨by rw [HF2.out];try (first | rfl | simp),hbl⟩
   ·have hF:F=false:=by rw [HF.out,if_neg (by omega),if_neg (by omega),if_neg (by omega)]
    have HF2:=zb hF;clear hF;have b0:(kind==0)=false:=beq_eq_false_iff_ne.2 k0;have b1:(kind==1)=false:=beq_eq_false_iff_ne.2 k1;have b2:(kind==2)=false:=beq_eq_false_iff_ne.2 k2;have b3:(kind==3)=false:=beq_eq_false_iff_ne.2 k3;have b4:(kind==4)=false:=beq_eq_false_iff_ne.2 k4;clear k0 k1 k2 k3 k4;go_wp2;go_ret;exact ⟨by rw [HF2.out];try (first | rfl | simp),hbl⟩
theorem zeM (w:World) (N:Nt) (A:Option Addr) (c:Nat) (hlen:N.l.length≤140737488355328) (hN:NtAt w w.heap.size A N.l) :
  Calls Tryz.prog 124 #[qg N A c] w fun e w'=>e = .returned (.bool (zG N))∧Below w.heap.size w w':=by
 obtain ⟨n,l⟩:=N;simp only at hlen hN;have hbl:Below w.heap.size w (w.alloc (.cells #[.int .i64 n,.slice A l.length c] 24)):=(zx _ _).alloc (zu _) _;by_cases hb:0≤n∧n≤128∧1≤l.length∧l.length≤65536
 ·obtain ⟨h1,h2,h3,h4⟩:=hb;have hv:zG ⟨n,l⟩=qR n 0 l:=by
   unfold zG;simp [h1,h2,h3,h4]
  have hV:=zb hv;clear hv;have hbox:=yQ w ⟨n,l⟩ A c 24 _ rfl;go_enter Tryz.func124, Tryz.ntmps124;go_wp2;go_loopw [3] (fun t wr=>∃ k:Nat,k≤l.length∧t = .int .i64 k∧Hid (qR n 0 (l.take k)=true)∧wr.rowIs w.heap.size 24 2 (gL ⟨n,l⟩ A c)∧Below w.heap.size w wr) (fun t _=>l.length-(intOf t).toNat)
  case atStart=>exact ⟨0,by omega,rfl,rfl,hbox,hbl⟩
  case round =>
   clear hbox hbl;obtain ⟨k,hk,rfl,HK,hbox,hbl⟩:=hrel;obtain ⟨hc1,hc2⟩:=qy hbox;by_cases hlt:k<l.length
   ·obtain ⟨b,o,rfl,hbB,hcs⟩:=hN (by omega);have hnd:=(hcs k hlt).below hbl hbB;clear hcs;have ht:=zbN n l k hlt;obtain ⟨x,hx⟩:∃ x,l[k]=x:=⟨_,rfl⟩;rw [hx] at hnd ht;have HT:=zb ht;clear ht hx;obtain ⟨hk1,hk2,⟨A',c',hk3,hrd⟩,hr1,hr2,hr3,hr4⟩:=hnd;have hsz:=hbl.size;have hrd':Rd wr.drew wr.drew.heap.size A' x.ins.length (zO x.ins):=Rd.more (w:=wr.drew) hrd hsz;have HFM:=zb (zih wr.drew x n k A' c' hr4 hrd' hr2);have HR:=zb hr2;have hbox':=hbox.drew;have hbl':=qV hbl 1
    change Below _ _ (World.drew _) at hbl'
    obtain ⟨hd1,hd2⟩:=qy hbox';have hd3:wr.drew.cell? ⟨b,o+k*3,none⟩=some (.int .i64 x.kind):=hk1;have hd4:wr.drew.cell? ⟨b,o+k*3+1,none⟩=some (.int .i64 x.lit):=hk2;have hd5:wr.drew.cell? ⟨b,o+k*3+2,none⟩=some (.slice A' x.ins.length c'):=hk3;have hi0:(0:Int)≤(k:Int):=by omega
    have hi1:(k:Int)<(l.length:Int):=by omega
    clear hrd hrd' hr1 hr2 hr3;cases hf:qk x n (k:Int)
    all_goals
     rw [hf] at HFM;have HF:=zb hf;clear hf;go_wp2_with fail
     go_region_held3 (fun w'=>w'.cell? ⟨w.heap.size,0,none⟩=some (.int .i64 n)∧w'.cell? ⟨w.heap.size,1,none⟩=some (.slice (some ⟨b,o,none⟩) l.length c)∧w'.cell? ⟨b,o+k*3,none⟩=some (.int .i64 x.kind)∧w'.cell? ⟨b,o+k*3+1,none⟩=some (.int .i64 x.lit)∧w'.cell? ⟨b,o+k*3+2,none⟩=some (.slice A' x.ins.length c'))
      (first | exact ⟨hd1,hd2,hd3,hd4,hd5⟩ | go_keep)
      (first
        | (go_simp
           go_at_call 159;(with_reducible refine HFM.out.mono ?_);rintro e' w9 ⟨rfl,hb9⟩;have hd3:=zB hb9 (by simp;omega) hd3;have hd4:=zB hb9 (by simp;omega) hd4;have hd5:=zB hb9 (by simp;omega) hd5;replace hbox':=zo hbox' hb9;replace hbl':=zw hbl' hb9 hbl'.size;obtain ⟨hd1,hd2⟩:=qy hbox'))
     go_wp2;first
      | (go_ret
         refine ⟨?_,hbl'⟩;have h1:qR n 0 l=false:=by
          cases h0:qR n 0 l
          ·rfl
          ·have h2:=zcS n l (k+1) h0;rw [HT.out,HF.out,Bool.and_false] at h2;cases h2
         rw [hV.out,h1];rfl)
      | (go_roundw
         case rel =>
          refine ⟨k+1,by omega,by go_num,?_,hbox',hbl'⟩;show _=_;rw [HT.out,HK.out,HF.out];rfl
         case measure=>simp [intOf];omega)
   ·obtain rfl:k=l.length:=by omega
    go_wp2;go_ret;refine ⟨?_,hbl⟩;have h1:=HK.out;rw [List.take_length] at h1;rw [hV.out,h1];rfl
 ·have hv:zG ⟨n,l⟩=false:=by
   unfold zG;simp only;rw [decide_eq_false hb];rfl
  rw [hv];clear hv hN;have hcs:n<0∨(0≤n∧128<n)∨(0≤n∧n≤128∧l.length<1)∨(0≤n∧n≤128∧1≤l.length∧65536<l.length):=by omega
  clear hb;rcases hcs with h1 | ⟨h1,h2⟩ | ⟨h1,h2,h3⟩ | ⟨h1,h2,h3,h4⟩
  all_goals
   go_enter Tryz.func124, Tryz.ntmps124;go_wp2;go_ret;exact ⟨rfl,hbl⟩
end Go.Proofs.YtmhllppjcilllaaGreatDoor
end
end
section
open Go Go.RowKit Cs
namespace Cs
def pI:List Nat→List Value
 | []=>[]
 | s::L=>.int .u64 (lo s:Int) :: .int .u64 (hi s:Int)::pI L
theorem zhB (s:Nat):∀ L:List Nat,pI (L++[s])=pI L++[.int .u64 (lo s:Int),.int .u64 (hi s:Int)]
 | []=>rfl
 | x::L=>by simp only [List.cons_append,pI,zhB s L]
theorem ze5:∀ (L:List Nat) (i:Nat),i<L.length*2→(pI L)[i]?=some (qe L i)
 | [],i,h=>by simp at h
 | s::L,0,_=>by simp [pI,qe]
 | s::L,1,_=>by simp [pI,qe]
 | s::L,i+2,h=>by
   have h2:=ze5 L i (by simp at h;omega);simp only [pI,List.getElem?_cons_succ];rw [h2];unfold qe;rw [show (i+2)%2=i%2 by omega,show (i+2) / 2=i / 2+1 by omega,List.getD_cons_succ]
end Cs
namespace Go.Proofs.YtmhllppjcilllaaGreatDoor
theorem twoInt {a b:Int} (u:Value) (h:u∈[Value.int .u64 a,Value.int .u64 b]):u.oneCell'=true:=by
 simp at h;rcases h with rfl | rfl <;> rfl
theorem newTwo {w:World} {a b:Value} {t:TypeId} (j:Nat) (u:Value) (h:([a,b]:List Value)[j]?=some u):(w.alloc (.cells #[a,b] t)).cell? ((⟨w.heap.size,0,none⟩:Addr).add j)=some u:=by
 have hr:=jQ w a b t _ rfl
 match j,h with
 | 0,h=>simp at h;subst h;exact hr.cell (i:=0) (by decide)
 | 1,h=>simp at h;subst h;exact hr.cell (i:=1) (by decide)
theorem ge {w:World} {g:Nat} {t:TypeId} {s:Nat} (h:w.rowIs g t 2 (qe [s])):w.cell? ⟨g,0,none⟩=some (.int .u64 (lo s:Int))∧w.cell? ⟨g,1,none⟩=some (.int .u64 (hi s:Int))∧w.frozen? ⟨g,0,none⟩=false∧w.frozen? ⟨g,1,none⟩=false:=by
 have:=qE h 0 (by decide);simpa using this
theorem zhh (w:World) (N:Nt) (A:Option Addr) (c:Nat) (hN:NtAt w w.heap.size A N.l) (hv:zG N=true) :
  Calls Tryz.prog 160 #[qg N A c] w fun e w'=>∃ g cap,e = .returned (.slice (some ⟨g,0,none⟩) N.l.length cap)∧w.heap.size≤g∧Rd w' w'.heap.size (some ⟨g,0,none⟩) (N.l.length*2) (qe (own N.l))∧Below w.heap.size w w':=by
 obtain ⟨hn0,hn1,hl0,hl1⟩:=qN hv;obtain ⟨ti,hti,ht0,ht1,ht2⟩:=info_parts zj0;have hck:=fun W h=>zeM W N A c (by omega) h;simp only [hv] at hck;have hfm:=fun k hk=>jn hv k hk;obtain ⟨n,l⟩:=N;simp only at hN hn0 hn1 hl0 hl1 hfm;have HF:=zb hfm;have HCK:=zb hck;clear hfm hv hck;have hbox:=yQ w ⟨n,l⟩ A c 24 _ rfl;have hbl:Below w.heap.size w (w.alloc (.cells #[.int .i64 n,.slice A l.length c] 24)):=(zx _ _).alloc (zu _) _;go_enter Tryz.func160, Tryz.ntmps160;go_wp2_with fail
 refine (HCK.out _ ((hN.below hbl).more hbl.size)).mono ?_;rintro e w5 ⟨rfl,hb5⟩;replace hbox:=zo hbox hb5;replace hbl:=zw hbl hb5 hbl.size;clear HCK hb5;go_wp2;go_loopw [3,4] (fun out t wr=>∃ k:Nat,k≤l.length∧t = .int .i64 k∧wr.ownsRow w.heap.size 96 2 out k (pI (own (l.take k)))∧wr.rowIs w.heap.size 24 2 (gL ⟨n,l⟩ A c)∧Below w.heap.size w wr) (fun _ t _=>l.length-(intOf t).toNat)
 case atStart=>exact ⟨0,by omega,rfl,World.ownsRow_nil _ _ _ _,hbox,hbl⟩
 case round =>
  clear hbox hbl;obtain ⟨k,hk,rfl,hown,hbox,hbl⟩:=hrel;obtain ⟨hc1,hc2⟩:=qy hbox;have hg:=hbox.lt;by_cases hlt:k<l.length
  ·obtain ⟨b,o,rfl,hbB,hcs⟩:=hN (by omega);have hnd:=hcs k hlt;clear hcs;have ht:=jT yT l k hlt;have hfk:=HF.out k hlt;obtain ⟨x,hx⟩:∃ x,l[k]=x:=⟨_,rfl⟩;rw [hx] at hnd ht hfk;have HT:=zb ht;clear ht hx;have hin:=formed_ins hfk;have HIN:=zb hin;clear hin hfk;obtain ⟨hk1,hk2,⟨A',c',hk3,hrd⟩,hr1,hr2,hr3,hr4⟩:=hnd;replace hk2:=zB hbl hbB hk2;have HK3:=zb hk3;replace hk3:=zB hbl hbB hk3;have HRD:=zb hrd;clear hrd;obtain ⟨L,hL⟩:∃ L,own (l.take k)=L:=⟨_,rfl⟩;have hLl:L.length=k:=by rw [← hL];exact yA _ _ _ (by omega)
   rw [hL] at hown
   change Hid (own (l.take (k+1))=own (l.take k)++[yT (own (l.take k)) x]) at HT
   rw [hL] at HT;have HLL:=zb hLl;clear hL hLl;obtain ⟨hl1,hl2⟩:=hr2;have hlv:=zdH x.lit;obtain ⟨v,hv⟩:∃ v,zQ x.lit=v:=⟨_,rfl⟩;rw [hv] at hlv;have hva:=fun W=>ziT W x.lit hl1 hl2;simp only [hv] at hva;have HVA:=zb hva;have HV:=zb hv;clear hva hv hk1;have hs0:(wr.alloc (.cells #[.int .u64 0,.int .u64 0] 96)).rowIs wr.heap.size 96 2 (qe [0]):=(jQ wr _ _ _ _ rfl).congr fun i hi=>by
    have:i=0∨i=1:=by omega
    rcases this with rfl | rfl <;> rfl
   have hown1:=hown.alloc (.cells #[.int .u64 0,.int .u64 0] 96);have hbox1:=hbox.alloc (.cells #[.int .u64 0,.int .u64 0] 96);have hbl1:=hbl.alloc hbl.size (.cells #[.int .u64 0,.int .u64 0] 96);have hz1:=hbl1.size;have hal:Below wr.heap.size wr (wr.alloc (.cells #[.int .u64 0,.int .u64 0] 96)):=(zx _ _).alloc (zu _) _;have hbr:b<wr.heap.size:=by omega
   replace hk2:=zB hal hbr hk2;replace hk3:=zB hal hbr hk3;obtain ⟨hs1,hs2,hs3,hs4⟩:=ge hs0;have hou:∀ g,u3.ownBlock=some g→w.heap.size≤g∧g<wr.heap.size:=fun g hg=>hown.lt g hg;have HOU:=zb hou;have hi0:(0:Int)≤(k:Int):=by omega
   have hi1:(k:Int)<(l.length:Int):=by omega
   have hcs:v=0∨(1≤v∧v≤64)∨(65≤v∧v≤128):=by omega
   have hstart:∀ (W:World) (a1 a2:Int),W=wr.alloc (.cells #[.int .u64 a1,.int .u64 a2] 96)→a1=(lo (zZ 0 v):Int)→a2=(hi (zZ 0 v):Int) →
     W.rowIs wr.heap.size 96 2 (qe [zZ 0 v])∧W.ownsRow w.heap.size 96 2 u3 k (pI L)∧W.rowIs w.heap.size 24 2 (gL ⟨n,l⟩ (some ⟨b,o,none⟩) c)∧Below w.heap.size w W:=fun W a1 a2 hW e1 e2=>by
    subst hW;subst e1;subst e2;refine ⟨(jQ wr _ _ _ _ rfl).congr fun i hi=>?_,hown.alloc _,hbox.alloc _,hbl.alloc hbl.size _⟩;have:i=0∨i=1:=by omega
    rcases this with rfl | rfl <;> rfl
   have HSTART:=zb hstart;clear hstart hown1 hbox1 hbl1 hs0 hs3 hs4 hown hal;obtain ⟨v0,hv0⟩:∃ v0,v0=v:=⟨_,rfl⟩;rw [← hv0] at HSTART HV;have HV0:=zb hv0;obtain ⟨W0,rfl⟩:∃ W0,W0=wr:=⟨wr,rfl⟩;rcases hcs with h0 | ⟨v1,v2⟩ | ⟨v1,v2⟩
   all_goals (first
    | (subst h0
       have e0:Hid (lo (zZ 0 v0)=0∧hi (zZ 0 v0)=0):=zb (by rw [hv0];decide);clear hv0;go_wp2_with (go_at_call 175;(with_reducible refine (HVA.out _).mono ?_);rintro e w6 ⟨rfl,rfl⟩)
       obtain ⟨q1,q2,q3,q4⟩:=HSTART.out _ 0 0 rfl (by rw [e0.out.1];rfl) (by rw [e0.out.2];rfl))
    | (have e1:(v-1) / 64=0:=by omega
       have e2:(v-1)%64=v-1:=by omega
       have e3:zZ 0 v=2^(v.toNat-1):=by unfold zZ;rw [if_pos (by omega),Nat.zero_or]
       have e4:lo (zZ 0 v)=2^(v.toNat-1):=by rw [e3,zfL,if_pos (by omega)]
       have e5:hi (zZ 0 v)=0:=by rw [e3,zfQ _ (by omega),if_pos (by omega)]
       have e6:=zcT (v.toNat-1) (by omega);rw [← e4] at e6;have e7:zZ 0 v=zZ 0 v0:=by rw [hv0]
       rw [e7] at e4 e5 e6;clear hv0 e7;have E4:=zb e4;have E5:=zb e5;have E6:=zb e6;clear e3 e4 e5 e6;go_wp2_with (go_at_call 175;(with_reducible refine (HVA.out _).mono ?_);rintro e w6 ⟨rfl,rfl⟩)
       obtain ⟨q1,q2,q3,q4⟩:=HSTART.out _ (IntKind.u64.wrap (2^(v.toNat-1))) 0 rfl E6.out (by rw [E5.out];rfl))
    | (have e1:(v-1) / 64=1:=by omega
       have e2:(v-1)%64=v-65:=by omega
       have e3:zZ 0 v=2^(v.toNat-1):=by unfold zZ;rw [if_pos (by omega),Nat.zero_or]
       have e4:hi (zZ 0 v)=2^(v-65).toNat:=by rw [e3,zfQ _ (by omega),if_neg (by omega)];congr 1;omega
       have e5:lo (zZ 0 v)=0:=by rw [e3,zfL,if_neg (by omega)]
       have e6:=zcT (v-65).toNat (by omega);rw [← e4] at e6;have e7:zZ 0 v=zZ 0 v0:=by rw [hv0]
       rw [e7] at e4 e5 e6;clear hv0 e7;have E4:=zb e4;have E5:=zb e5;have E6:=zb e6;clear e3 e4 e5 e6;go_wp2_with (go_at_call 175;(with_reducible refine (HVA.out _).mono ?_);rintro e w6 ⟨rfl,rfl⟩)
       obtain ⟨q1,q2,q3,q4⟩:=HSTART.out _ 0 (IntKind.u64.wrap (2^(v-65).toNat)) rfl (by rw [E5.out];rfl) E6.out))
   all_goals
    clear HSTART hs1 hs2 hk2 hou;go_loopw [7] (fun t wq=>∃ (m s:Nat),m≤x.ins.length∧t = .int .i64 m∧Hid ((x.ins.take m).foldl (fun s k=>s ||| L.getD k.toNat 0) (zZ 0 v0)=s)∧wq.rowIs W0.heap.size 96 2 (qe [s])∧wq.ownsRow w.heap.size 96 2 u3 k (pI L)∧wq.rowIs w.heap.size 24 2 (gL ⟨n,l⟩ (some ⟨b,o,none⟩) c)∧Below w.heap.size w wq∧W0.heap.size<wq.heap.size) (fun t _=>x.ins.length-(intOf t).toNat)
    case atStart=>exact ⟨0,_,by omega,rfl,rfl,q1,q2,q3,q4,by simp⟩
    case round =>
     clear q1 q2 q3 q4;obtain ⟨m,s,hm,rfl,HP,hset,hown,hbox,hbl,hzq⟩:=hrel;obtain ⟨hc1,hc2⟩:=qy hbox;obtain ⟨hs1,hs2,hs3,hs4⟩:=ge hset;have hk3:wr.cell? ⟨b,o+k*3+2,none⟩=some (.slice A' x.ins.length c'):=zB hbl hbB HK3.out;by_cases hmlt:m<x.ins.length
     ·obtain ⟨b',o',rfl,hbB',hcs⟩:=HRD.out (by omega);have hc:=zB hbl hbB' (hcs m hmlt);clear hcs;unfold zO at hc;obtain ⟨j,hj1,hj2⟩:=HIN.out m hmlt;rw [hj1] at hc;have htk:x.ins.take (m+1)=x.ins.take m++[(j:Int)]:=by
       rw [List.take_succ_eq_append_getElem hmlt];congr 2;rw [← hj1];simp [List.getD,hmlt]
      obtain ⟨y,hy⟩:∃ y,L.getD j 0=y:=⟨_,rfl⟩;have hfo:(x.ins.take (m+1)).foldl (fun s k=>s ||| L.getD k.toNat 0) (zZ 0 v0)=s ||| y:=by
       rw [htk,List.foldl_append,HP.out];show s ||| L.getD (j:Int).toNat 0=_
       rw [Int.toNat_natCast,hy]
      have HFO:=zb hfo;obtain ⟨gr,cr,rfl,hgr1,hgr2⟩:=yX hown (by omega);have hle:=HLL.out;have hj3:j*2<L.length*2:=by omega
      have hj4:j*2+1<L.length*2:=by omega
      have ho1:wr.cell? ⟨gr,j*2,none⟩=some (.int .u64 (lo y:Int)):=by
       rw [hown.cellAt _ (by omega),ze5 L _ hj3];unfold qe;rw [if_pos (by omega),show j*2 / 2=j by omega,hy]
      have ho2:wr.cell? ⟨gr,j*2+1,none⟩=some (.int .u64 (hi y:Int)):=by
       rw [hown.cellAt _ (by omega),ze5 L _ hj4];unfold qe;rw [if_neg (by omega),show (j*2+1) / 2=j by omega,hy]
      have h1:=u64_or_nat (lo s) (lo y) (yO s) (yO y);have h2:=u64_or_nat (hi s) (hi y) (yN s) (yN y);rw [← zko] at h1;rw [← zkv] at h2;have j0:(0:Int)≤(j:Int):=by omega
      have j1:(j:Int)<(k:Int):=by omega
      have m0:(0:Int)≤(m:Int):=by omega
      have m1:(m:Int)<(x.ins.length:Int):=by omega
      have hne:W0.heap.size≠wr.heap.size:=by omega
      have hset0:=hset;clear hj1 htk hy hfo hle hj3 hj4 hset;go_wp2;have hzq2:=hbl.size;have hset2:∀ (W:World),W=((wr.setCell ⟨W0.heap.size,0,none⟩ (.int .u64 (lo (s ||| y):Int))).setCell ⟨W0.heap.size,1,none⟩ (.int .u64 (hi (s ||| y):Int))).alloc (.cells #[.int .u64 (lo y:Int),.int .u64 (hi y:Int)] 96) →
        W.rowIs W0.heap.size 96 2 (qe [s ||| y])∧W.ownsRow w.heap.size 96 2 (.slice (some ⟨gr,0,none⟩) k cr) k (pI L)∧W.rowIs w.heap.size 24 2 (gL ⟨n,l⟩ (some ⟨b,o,none⟩) c)∧Below w.heap.size w W∧W0.heap.size<W.heap.size:=fun W hW=>by
       subst hW;obtain ⟨hgw1,hgw2⟩:=HOU.out gr rfl;have hng:(Value.slice (some ⟨gr,0,none⟩) k cr).ownBlock≠some W0.heap.size:=fun e=>by
        have e2:gr=W0.heap.size:=by injection e
        omega
       refine ⟨World.rowIs.alloc (((hset0.set 0 _).set 1 _).congr fun i hi=>?_) _,(ownsRow_setCell_other (ownsRow_setCell_other hown hng _) hng _).alloc _,((hbox.setOther (by simp;omega) _).setOther (by simp;omega) _).alloc _,((hbl.setCell (by simp;omega) _).setCell (by simp;omega) _).alloc (by simp;omega) _,by simp;omega⟩;have:i=0∨i=1:=by omega
       rcases this with rfl | rfl <;> rfl
      obtain ⟨p1,p2,p3,p4,p5⟩:=hset2 _ rfl;go_roundw
      case rel=>exact ⟨m+1,s ||| y,by omega,by go_num,HFO.out,p1,p2,p3,p4,p5⟩
      case measure=>simp [intOf];omega
     ·obtain rfl:m=x.ins.length:=by omega
      have hst:yT L x=s:=by
       have:=HP.out;rw [List.take_length] at this;unfold yT;rw [HV.out];exact this
      have hnx:=HT.out;rw [hst] at hnx;have HNX:=zb hnx;have hle:=HLL.out;clear hst hnx;have hzq2:=hbl.size;have hlt0:∀ k,u3.ownBlock=some k→w.heap.size≤k:=fun k hk=>(HOU.out k hk).1;have hnb:u3.ownBlock≠some w.heap.size:=fun e=>by
       rcases hown.2 with ⟨rfl,_⟩ | ⟨g,cap,cur,rfl,_,hgb,_⟩
       ·cases e
       ·have e2:g=w.heap.size:=by injection e
        subst e2;have h1:=jk hbox;rw [hgb] at h1;injection h1 with h1;injection h1 with _ h2 _;cases h2
      go_wp2_with (at_builtin;refine wpList_append_own _ rfl _ _ 115 rfl w.heap.size 96 ti (.agg #[.int .u64 0,.int .u64 0]) 2 16 Tryz.underlying115 hti ht0 ht1 ht2 rfl (by decide) _ _ _ rfl (hown.alloc _) ⟨wr.heap.size,0,none⟩ 1 1 [.int .u64 (lo s:Int),.int .u64 (hi s:Int)] rfl rfl newTwo twoInt (by unfold maxLen;omega) (by omega) (by simp;omega) ?_;intro v' w3 hown3 hgr3 _)
      have hbl3:=(hbl.alloc hbl.size _).grown hgr3 (by simp;omega) (fun k e=>hlt0 k e);have hbox3:=jl (hbox.alloc _) hgr3 (fun e=>hnb e.symm);rw [← zhB] at hown3;rw [← HNX.out] at hown3;go_wp2;go_roundw
      case rel=>exact ⟨k+1,by omega,by go_num,hown3,hbox3,hbl3⟩
      case measure=>simp [intOf];omega
  ·obtain rfl:k=l.length:=by omega
   rw [List.take_length] at hown;obtain ⟨gr,cr,rfl,hgr1,hgr2⟩:=yX hown (by omega);have hol:=zdt l;have hrd:Rd wr wr.heap.size (some ⟨gr,0,none⟩) (l.length*2) (qe (own l)):=fun _=>⟨gr,0,rfl,hgr2,fun i hi=>by rw [Nat.zero_add,hown.cellAt i hi,ze5 _ i (by omega)]⟩;clear hlt hown hol;go_wp2;go_ret;exact ⟨gr,⟨cr,rfl⟩,hgr1,hrd,hbl⟩
end Go.Proofs.YtmhllppjcilllaaGreatDoor
end
