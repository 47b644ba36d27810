import Derived.Test.YtmhllppjcilllaaGreatDoorV1
import Derived.Test.YtmhllppjcilllaaGreatDoorN1
set_option linter.unusedSimpArgs false
set_option linter.unusedVariables false
set_option maxRecDepth 100000
set_option maxHeartbeats 400000
section
open Go Go.RowKit Cs
namespace Go.Proofs.YtmhllppjcilllaaGreatDoor
theorem zg3 (w:World) (A:Option Addr) (c:Nat) (xs:List Int) (hlen:xs.length≤140737488355328) (hr:Rd w w.heap.size A xs.length (zO xs)) (fid:Nat) (cap:Value) (p:Int→Bool)
  (he:∀ args w,(callFunc fid args).run Tryz.prog w = .ok (.enter fid args) w)
  (hp:∀ x∈xs,Calls Tryz.prog fid #[.int .i64 x,cap] w fun e w'=>e = .returned (.bool (p x))∧w=w') :
  Calls Tryz.prog 139 #[.slice A xs.length c,.func (.func fid) #[] #[cap]] w fun e w'=>∃ r:Int,e = .returned (.int .i64 r)∧(0≤r↔xs.any p=true)∧-1≤r∧r≤140737488355328∧w=w':=by
 have HP:=zb hp;clear hp;go_enter Tryz.func139, Tryz.ntmps139;go_wp2
 go_loop [8] (fun t=>∃ k:Nat,k≤xs.length∧t = .int .i64 k∧Hid ((xs.take k).any p=false)) (fun t=>xs.length-(intOf t).toNat)
 case atStart=>exact ⟨0,by omega,rfl,rfl⟩
 case round =>
  obtain ⟨k,hk,rfl,HK⟩:=hrel;by_cases hlt:k<xs.length
  ·obtain ⟨b,o,rfl,hb,hcs⟩:=hr (by omega);have hc:=hcs k hlt;unfold zO at hc;have hg:xs.getD k 0=xs[k]:=by simp [List.getD,hlt]
   rw [hg] at hc;clear hg;have hpk:=HP.out xs[k] (List.getElem_mem hlt);obtain ⟨x,hx⟩:∃ x,xs[k]=x:=⟨_,rfl⟩;have ht:xs.take (k+1)=xs.take k++[xs[k]]:=List.take_succ_eq_append_getElem hlt;rw [hx] at hc hpk ht;have HT:=zb ht;clear ht;have HPK:=zb hpk;clear hpk;have hxm:x∈xs:=by rw [← hx];exact List.getElem_mem hlt
   have HX:=zb hx;clear hx hcs;cases hpx:p x
   ·have H1:=HPK.out;rw [hpx] at H1;have H2:=zb H1;clear H1;have HPX:=zb hpx;clear hpx;go_wp2_with fail
    refine H2.out.mono ?_;rintro e w' ⟨rfl,rfl⟩;go_wp2
    go_round
    case rel =>
     refine ⟨k+1,by omega,by go_num,?_⟩;show _=_;rw [HT.out,List.any_append,HK.out];simp [HPX.out]
    case measure=>simp [intOf];omega
   ·have H1:=HPK.out;rw [hpx] at H1;have H2:=zb H1;clear H1;have HPX:=zb hpx;clear hpx;go_wp2_with fail
    refine H2.out.mono ?_;rintro e w' ⟨rfl,rfl⟩;go_wp2;go_ret;refine ⟨k,rfl,⟨fun _=>List.any_eq_true.2 ⟨x,hxm,HPX.out⟩,fun _=>by omega⟩,by omega,by omega,rfl⟩
  ·obtain rfl:k=xs.length:=by omega
   have HK':=HK.out;rw [List.take_length] at HK';have HK2:=zb HK';clear HK';go_wp2;go_ret;refine ⟨-1,rfl,⟨fun h=>by omega,fun h=>?_⟩,by omega,by omega,rfl⟩;exact absurd (List.any_eq_true.2 (by simpa using h)) (by rw [HK2.out];decide)
theorem zeo (w:World) (A:Option Addr) (c:Nat) (xs:List Int) (hlen:xs.length≤140737488355328) (hr:Rd w w.heap.size A xs.length (zO xs)) (fid:Nat) (cap:Value) (p:Int→Bool)
  (he:∀ args w,(callFunc fid args).run Tryz.prog w = .ok (.enter fid args) w)
  (hp:∀ x∈xs,Calls Tryz.prog fid #[.int .i64 x,cap] w fun e w'=>e = .returned (.bool (p x))∧w=w') :
  Calls Tryz.prog 94 #[.slice A xs.length c,.func (.func fid) #[] #[cap]] w fun e w'=>e = .returned (.bool (xs.any p))∧w=w':=by
 have hI:=zg3 w A c xs hlen hr fid cap p he hp;have HI:=zb hI;clear hI hp hr he;go_enter Tryz.func94, Tryz.ntmps94;go_wp2_with (go_at_call 139;refine HI.out.mono ?_;rintro e w' ⟨r,rfl,hr,hr1,hr2,rfl⟩;have HR:=zb hr;clear hr)
 go_ret;refine ⟨?_,rfl⟩;show Ending.returned (.bool (decide (0≤r)))=_;congr 2;rw [Bool.eq_iff_iff];simpa using HR.out
theorem ziv (w:World) (i before:Int) (b:Nat) (hc:w.cell? ⟨b,0,none⟩=some (.int .i64 before)) :
  Calls Tryz.prog 133 #[.int .i64 i,.pointer (some ⟨b,0,none⟩)] w fun e w'=>e = .returned (.bool (decide (i<0)||decide (before≤i)))∧w=w':=by
 by_cases h:i<0
 ·have h1:(decide (i<0)||decide (before≤i))=true:=by simp [h]
  rw [h1];clear h1;go_enter Tryz.func133, Tryz.ntmps133;go_wp2;go_ret;exact ⟨rfl,rfl⟩
 ·have h1:(decide (i<0)||decide (before≤i))=decide (before≤i):=by simp [h]
  rw [h1];clear h1;go_enter Tryz.func133, Tryz.ntmps133;go_wp2;go_ret;exact ⟨rfl,rfl⟩
abbrev ndV (x:Nd) (A:Option Addr) (c:Nat):Value:=.agg #[.int .i64 x.kind,.int .i64 x.lit,.slice A x.ins.length c]
theorem zfT (w:World) (x:Nd) (n before:Int) (A:Option Addr) (c:Nat) (hlen:x.ins.length≤140737488355328) (hr:Rd w w.heap.size A x.ins.length (zO x.ins)) (hrl:zT x.lit) :
  Calls Tryz.prog 88 #[ndV x A c,.int .i64 n,.int .i64 before] w fun e w'=>e = .returned (.bool (qk x n before))∧Below w.heap.size w w':=by
 obtain ⟨kind,lit,ins⟩:=x;simp only at hlen hr hrl;obtain ⟨hl1,hl2⟩:=hrl;have hbox:=(qF (w.alloc (.cells #[.int .i64 kind,.int .i64 lit,.slice A ins.length c] 66)) (.int .i64 before) 3 (w.heap.size+1) (by simp));have hbl:Below w.heap.size w ((w.alloc (.cells #[.int .i64 kind,.int .i64 lit,.slice A ins.length c] 66)).alloc (.cells #[.int .i64 before] 3)):=((zx _ _).alloc (zu _) _).alloc (by simp) _;have hcf:=zeo _ A c ins hlen ((hr.below hbl).more hbl.size) 133 (.pointer (some ⟨w.heap.size+1,0,none⟩)) (fun i=>decide (i<0)||decide (before≤i)) (enters_of Tryz.func133 (by kernel_rfl) rfl)
  (fun i _=>ziv _ i before (w.heap.size+1) (zV hbox))
 have HCF:=zb hcf;clear hcf hbox hr;have hlv:=fun W=>zeh W lit n hl1 hl2;have HLV:=zb hlv;clear hlv;cases hany:ins.any (fun i=>decide (i<0)||decide (before≤i))
 ·rw [hany] at HCF;have hf:qk ⟨kind,lit,ins⟩ n before=if kind=0∨kind=1 then decide (lit=0)&&decide (ins.length=0) else if kind=2 then qh lit n&&decide (ins.length=0) else if kind=3∨kind=4 then decide (lit=0) else false:=by
   unfold qk;simp only [hany];simp
  rw [hf];clear hf hany;have hnil:(decide (ins.length=0))=((ins.length:Int)==0):=by rw [Bool.eq_iff_iff];simp
  have hlz:(decide (lit=0))=(lit==0):=by rw [Bool.eq_iff_iff];simp
  have hk:kind=0∨kind=1∨kind=2∨kind=3∨kind=4∨(kind≠0∧kind≠1∧kind≠2∧kind≠3∧kind≠4):=by omega
  rcases hk with rfl | rfl | rfl | rfl | rfl | ⟨k0,k1,k2,k3,k4⟩
  ·rw [if_pos (.inl rfl),hnil,hlz];clear hnil hlz;by_cases hl:lit=0
   ·subst hl;go_enter Tryz.func88, Tryz.ntmps88;go_wp2_with (go_at_call 94;refine HCF.out.mono ?_;rintro e w' ⟨rfl,rfl⟩)
    go_ret;exact ⟨by first | rfl | simp,hbl⟩
   ·have hl0:(lit==0)=false:=beq_eq_false_iff_ne.2 hl;rw [hl0,Bool.false_and];clear hl;go_enter Tryz.func88, Tryz.ntmps88;go_wp2_with (go_at_call 94;refine HCF.out.mono ?_;rintro e w' ⟨rfl,rfl⟩)
    go_ret;exact ⟨by first | rfl | simp,hbl⟩
  ·rw [if_pos (.inr rfl),hnil,hlz];clear hnil hlz;by_cases hl:lit=0
   ·subst hl;go_enter Tryz.func88, Tryz.ntmps88;go_wp2_with (go_at_call 94;refine HCF.out.mono ?_;rintro e w' ⟨rfl,rfl⟩)
    go_ret;exact ⟨by first | rfl | simp,hbl⟩
   ·have hl0:(lit==0)=false:=beq_eq_false_iff_ne.2 hl;rw [hl0,Bool.false_and];clear hl;go_enter Tryz.func88, Tryz.ntmps88;go_wp2_with (go_at_call 94;refine HCF.out.mono ?_;rintro e w' ⟨rfl,rfl⟩)
    go_ret;exact ⟨by first | rfl | simp,hbl⟩
  ·rw [if_neg (by omega),if_pos rfl,hnil];clear hnil hlz;cases hv:qh lit n
   ·rw [hv] at HLV;rw [Bool.false_and];clear hv;go_enter Tryz.func88, Tryz.ntmps88;go_wp2_with (first | (go_at_call 94;refine HCF.out.mono ?_;rintro e w' ⟨rfl,rfl⟩) | (go_at_call 134;refine (HLV.out _).mono ?_;rintro e w' ⟨rfl,rfl⟩))
    go_ret;exact ⟨by first | rfl | simp,hbl⟩
   ·rw [hv] at HLV;rw [Bool.true_and];clear hv;go_enter Tryz.func88, Tryz.ntmps88;go_wp2_with (first | (go_at_call 94;refine HCF.out.mono ?_;rintro e w' ⟨rfl,rfl⟩) | (go_at_call 134;refine (HLV.out _).mono ?_;rintro e w' ⟨rfl,rfl⟩))
    go_ret;exact ⟨by first | rfl | simp,hbl⟩
  ·rw [if_neg (by omega),if_neg (by omega),if_pos (.inl rfl),hlz];clear hnil hlz;go_enter Tryz.func88, Tryz.ntmps88;go_wp2_with (go_at_call 94;refine HCF.out.mono ?_;rintro e w' ⟨rfl,rfl⟩)
   go_ret;exact ⟨by first | rfl | simp,hbl⟩
  ·rw [if_neg (by omega),if_neg (by omega),if_pos (.inr rfl),hlz];clear hnil hlz;go_enter Tryz.func88, Tryz.ntmps88;go_wp2_with (go_at_call 94;refine HCF.out.mono ?_;rintro e w' ⟨rfl,rfl⟩)
   go_ret;exact ⟨by first | rfl | simp,hbl⟩
  ·rw [if_neg (by omega),if_neg (by omega),if_neg (by omega)];have b0:(kind==0)=false:=beq_eq_false_iff_ne.2 k0;have b1:(kind==1)=false:=beq_eq_false_iff_ne.2 k1;have b2:(kind==2)=false:=beq_eq_false_iff_ne.2 k2;have b3:(kind==3)=false:=beq_eq_false_iff_ne.2 k3;have b4:(kind==4)=false:=beq_eq_false_iff_ne.2 k4;clear hnil hlz k0 k1 k2 k3 k4;go_enter Tryz.func88, Tryz.ntmps88;go_wp2_with (go_at_call 94;refine HCF.out.mono ?_;rintro e w' ⟨rfl,rfl⟩)
   go_ret;exact ⟨by first | rfl | simp,hbl⟩
 ·rw [hany] at HCF;have hf:qk ⟨kind,lit,ins⟩ n before=false:=by unfold qk;simp only [hany];simp
  rw [hf];clear hf hany;go_enter Tryz.func88, Tryz.ntmps88;go_wp2_with (go_at_call 94;refine HCF.out.mono ?_;rintro e w' ⟨rfl,rfl⟩)
  go_ret;exact ⟨by first | rfl | simp,hbl⟩
abbrev qg (N:Nt) (A:Option Addr) (c:Nat):Value:=.agg #[.int .i64 N.n,.slice A N.l.length c]
def gL (N:Nt) (A:Option Addr) (c:Nat) (i:Nat):Value:=if i=0 then .int .i64 N.n else .slice A N.l.length c
theorem qy {w:World} {g:Nat} {t:TypeId} {N:Nt} {A:Option Addr} {c:Nat} (h:w.rowIs g t 2 (gL N A c)) :
  w.cell? ⟨g,0,none⟩=some (.int .i64 N.n)∧w.cell? ⟨g,1,none⟩=some (.slice A N.l.length c):=⟨h.cell (i:=0) (by omega),h.cell (i:=1) (by omega)⟩
theorem yQ (w:World) (N:Nt) (A:Option Addr) (c:Nat) (t:TypeId) (g:Nat) (hg:w.heap.size=g):(w.alloc (.cells #[.int .i64 N.n,.slice A N.l.length c] t)).rowIs g t 2 (gL N A c):=jQ w _ _ t g hg
def je (N:Nt):Int:=if zG N then 0 else 1
theorem zbs (w:World) (N:Nt) (A:Option Addr) (c:Nat) (hlen:N.l.length≤140737488355328) (hN:NtAt w w.heap.size A N.l) :
  Calls Tryz.prog 46 #[qg N A c] w fun e w'=>e = .returned (.int .i64 (je N))∧Below w.heap.size w w':=by
 obtain ⟨n,l⟩:=N;simp only at hlen hN;by_cases hb:0≤n∧n≤128∧1≤l.length∧l.length≤65536
 ·obtain ⟨h1,h2,h3,h4⟩:=hb;have hv:zG ⟨n,l⟩=qR n 0 l:=by
   unfold zG;simp [h1,h2,h3,h4]
  have hV:=zb hv;clear hv;have hbox:=yQ w ⟨n,l⟩ A c 24 _ rfl;have hbl:Below w.heap.size w (w.alloc (.cells #[.int .i64 n,.slice A l.length c] 24)):=(zx _ _).alloc (zu _) _;go_enter Tryz.func46, Tryz.ntmps46;go_wp2;go_loopw [28] (fun t wr=>∃ k:Nat,k≤l.length∧t = .int .i64 k∧Hid (qR n 0 (l.take k)=true)∧wr.rowIs w.heap.size 24 2 (gL ⟨n,l⟩ A c)∧Below w.heap.size w wr) (fun t _=>l.length-(intOf t).toNat)
  case atStart=>exact ⟨0,by omega,rfl,rfl,hbox,hbl⟩
  case round =>
   clear hbox hbl;obtain ⟨k,hk,rfl,HK,hbox,hbl⟩:=hrel;obtain ⟨hc1,hc2⟩:=qy hbox;by_cases hlt:k<l.length
   ·obtain ⟨b,o,rfl,hbB,hcs⟩:=hN (by omega);have hnd:=(hcs k hlt).below hbl hbB;clear hcs;have ht:=zbN n l k hlt;obtain ⟨x,hx⟩:∃ x,l[k]=x:=⟨_,rfl⟩;rw [hx] at hnd ht;have HT:=zb ht;clear ht hx;obtain ⟨hk1,hk2,⟨A',c',hk3,hrd⟩,hr1,hr2,hr3,hr4⟩:=hnd;have hrd':=(hrd.alloc hbl.size (.cells #[.int .i64 x.kind,.int .i64 x.lit,.slice A' x.ins.length c'] 66)).more (B':=wr.heap.size+1) (by have:=hbl.size;omega);have HRD:=zb hrd';clear hrd' hrd;have hszlt:=hbox.lt;have hal:Below w.heap.size w (wr.alloc (.cells #[.int .i64 x.kind,.int .i64 x.lit,.slice A' x.ins.length c'] 66)):=hbl.alloc (by omega) _;have HAL:=zb hal;clear hal;cases hf:qk x n (k:Int)
    ·have HF:=zb hf;clear hf;go_wp2_with (go_at_call 88;refine (zfT _ x n k A' c' hr4 (by simpa using HRD.out) hr2).mono ?_;rintro e w5 ⟨rfl,hb5⟩;rw [HF.out])
     go_ret;refine ⟨?_,zw HAL.out hb5 (by simp;omega)⟩;have h1:qR n 0 l=false:=by
      cases h0:qR n 0 l
      ·rfl
      ·have h2:=zcS n l (k+1) h0;rw [HT.out,HF.out,Bool.and_false] at h2;cases h2
     unfold je;rw [hV.out,h1];rfl
    ·have HF:=zb hf;clear hf;go_wp2_with (go_at_call 88;refine (zfT _ x n k A' c' hr4 (by simpa using HRD.out) hr2).mono ?_;rintro e w5 ⟨rfl,hb5⟩;rw [HF.out])
     go_roundw
     case rel =>
      refine ⟨k+1,by omega,by go_num,?_,?_,zw HAL.out hb5 (by simp;omega)⟩
      ·show _=_;rw [HT.out,HK.out,HF.out];rfl
      ·exact zd8 (hbox.alloc _) hb5 (by simp;omega)
     case measure=>simp [intOf];omega
   ·obtain rfl:k=l.length:=by omega
    go_wp2;go_ret;refine ⟨?_,hbl⟩;have h1:=HK.out;rw [List.take_length] at h1;unfold je;rw [hV.out,h1];rfl
 ·have hv:je ⟨n,l⟩=1:=by
   unfold je zG;simp only;rw [decide_eq_false hb];rfl
  have HV:=zb hv;clear hv;rw [HV.out];by_cases h1:n<0
  ·clear hN hb;go_enter Tryz.func46, Tryz.ntmps46;go_wp2;go_ret;exact ⟨rfl,(zx _ _).alloc (zu _) _⟩
  ·by_cases h2:128<n
   ·clear hN hb;go_enter Tryz.func46, Tryz.ntmps46;go_wp2;go_ret;exact ⟨rfl,(zx _ _).alloc (zu _) _⟩
   ·by_cases h3:l.length<1
    ·clear hN hb;go_enter Tryz.func46, Tryz.ntmps46;go_wp2;go_ret;exact ⟨rfl,(zx _ _).alloc (zu _) _⟩
    ·have h4:65536<l.length:=by omega
     clear hN hb;go_enter Tryz.func46, Tryz.ntmps46;go_wp2;go_ret;exact ⟨rfl,(zx _ _).alloc (zu _) _⟩
end Go.Proofs.YtmhllppjcilllaaGreatDoor
end
section
open Go Go.RowKit Cs
namespace Cs
def scan {α:Type} (f:List α→Nd→α) (acc:List α):List Nd→List α
 | []=>acc
 | x::xs=>scan f (acc++[f acc x]) xs
theorem zhg {α:Type} (f:List α→Nd→α) (x:Nd):∀ (xs:List Nd) (acc:List α),scan f acc (xs++[x])=scan f acc xs++[f (scan f acc xs) x]
 | [],acc=>rfl
 | y::ys,acc=>zhg f x ys _
theorem jT {α:Type} (f:List α→Nd→α) (xs:List Nd) (k:Nat) (h:k<xs.length):scan f [] (xs.take (k+1))=scan f [] (xs.take k)++[f (scan f [] (xs.take k)) xs[k]]:=by
 rw [List.take_succ_eq_append_getElem h,zhg]
theorem zce {α:Type} (f:List α→Nd→α):∀ (xs:List Nd) (acc:List α),(scan f acc xs).length=acc.length+xs.length
 | [],acc=>rfl
 | y::ys,acc=>by show (scan f _ ys).length=_;rw [zce f ys];simp;omega
theorem yA {α:Type} (f:List α→Nd→α) (xs:List Nd) (k:Nat) (h:k≤xs.length):(scan f [] (xs.take k)).length=k:=by
 rw [zce];simp;omega
theorem ziS {α:Type} (f:List α→Nd→α):∀ (xs:List Nd) (acc:List α),∃ r,scan f acc xs=acc++r
 | [],acc=>⟨[],by simp [scan]⟩
 | y::ys,acc=>by
   obtain ⟨r,hr⟩:=ziS f ys (acc++[f acc y]);exact ⟨f acc y::r,by show scan f _ ys=_;rw [hr];simp⟩
theorem zeK {α:Type} (f:List α→Nd→α):∀ (xs ys:List Nd) (acc:List α),scan f acc (xs++ys)=scan f (scan f acc xs) ys
 | [],_,_=>rfl
 | x::xs,ys,acc=>zeK f xs ys _
theorem zgh {α:Type} (f:List α→Nd→α) (d:α) (xs:List Nd) (k j:Nat) (h:k≤xs.length) (hj:j<k):(scan f [] (xs.take k)).getD j d=(scan f [] xs).getD j d:=by
 conv=>rhs;rw [← List.take_append_drop k xs,zeK]
 obtain ⟨r,hr⟩:=ziS f (xs.drop k) (scan f [] (xs.take k));rw [hr,List.getD_eq_getElem?_getD,List.getD_eq_getElem?_getD,List.getElem?_append_left (by rw [yA f xs k h];exact hj)]
theorem zhf {α:Type} (f:List α→Nd→α) (d:α) (xs:List Nd) (k:Nat) (h:k<xs.length):(scan f [] xs).getD k d=f (scan f [] (xs.take k)) xs[k]:=by
 rw [← zgh f d xs (k+1) k (by omega) (by omega),jT f xs k h,List.getD_eq_getElem?_getD,List.getElem?_append_right (by rw [yA f xs k (by omega)];omega),yA f xs k (by omega)];simp
def yT (acc:List Nat) (x:Nd):Nat:=x.ins.foldl (fun s k=>s ||| acc.getD k.toNat 0) (zZ 0 (zQ x.lit))
def own (l:List Nd):List Nat:=scan yT [] l
theorem zdt (l:List Nd):(own l).length=l.length:=by unfold own;rw [zce];simp
theorem zfP (acc:List Nat) (h:∀ j,qD (acc.getD j 0)):∀ (ks:List Int) (s:Nat),qD s→qD (ks.foldl (fun s k=>s ||| acc.getD k.toNat 0) s)
 | [],_,hs=>hs
 | k::ks,s,hs=>zfP acc h ks _ (zg1 hs (h _))
theorem zfO:∀ (xs:List Nd) (acc:List Nat),(∀ j,qD (acc.getD j 0))→∀ j,qD ((scan yT acc xs).getD j 0)
 | [],_,h=>h
 | x::xs,acc,h=>zfO xs _ fun j=>by
   rw [List.getD_eq_getElem?_getD,List.getElem?_append];split
   ·rw [← List.getD_eq_getElem?_getD];exact h j
   ·cases hq:([yT acc x]:List Nat)[j-acc.length]? with
    | none=>exact zdb
    | some v =>
      have hm:=List.mem_of_getElem? hq;simp at hm;subst hm;exact zfP acc h _ _ (x6 zdb _)
theorem zgt (l:List Nd) (j:Nat):qD ((own l).getD j 0):=zfO l [] (fun j=>by simp [zdb]) j
def qe (L:List Nat) (i:Nat):Value:=if i%2=0 then .int .u64 (lo (L.getD (i / 2) 0):Int) else .int .u64 (hi (L.getD (i / 2) 0):Int)
theorem jm (L:List Nat) (s j:Nat):(L++[s]).getD j 0=if j=L.length then s else L.getD j 0:=by
 rw [List.getD_eq_getElem?_getD,List.getElem?_append];by_cases h:j<L.length
 ·rw [if_pos h,if_neg (by omega),← List.getD_eq_getElem?_getD]
 ·rw [if_neg h];by_cases h2:j=L.length
  ·subst h2;simp
  ·rw [if_neg h2,List.getD_eq_getElem?_getD,List.getElem?_eq_none (by simp;omega),List.getElem?_eq_none (by omega)]
section
variable {w:World} {g n:Nat} {t:TypeId} {L:List Nat}
theorem qE (h:w.rowIs g t n (qe L)) (j:Nat) (hj:j*2+1<n) :
  w.cell? ⟨g,j*2,none⟩=some (.int .u64 (lo (L.getD j 0):Int))∧w.cell? ⟨g,j*2+1,none⟩=some (.int .u64 (hi (L.getD j 0):Int))∧w.frozen? ⟨g,j*2,none⟩=false∧w.frozen? ⟨g,j*2+1,none⟩=false:=by
 refine ⟨(h.cell (i:=j*2) (by omega)).trans ?_,(h.cell (i:=j*2+1) (by omega)).trans ?_,h.frozen _,h.frozen _⟩
 ·unfold qe;rw [if_pos (by omega),show j*2 / 2=j by omega]
 ·unfold qe;rw [if_neg (by omega),show (j*2+1) / 2=j by omega]
theorem j8 {f:Nat→Value} {L':List Nat} (h:w.rowIs g t n f) (j s:Nat)
  (hf:∀ i,i<n→i / 2≠j→f i=qe L' i) (hs:L'.getD j 0=s) :
  ((w.setCell ⟨g,j*2,none⟩ (.int .u64 (lo s:Int))).setCell ⟨g,j*2+1,none⟩ (.int .u64 (hi s:Int))).rowIs g t n (qe L') :=
 ((h.set (j*2) _).set (j*2+1) _).congr fun i hi=>by
  by_cases h1:i=j*2+1
  ·rw [if_pos h1];unfold qe;rw [if_neg (by omega),show i / 2=j by omega,hs]
  ·rw [if_neg h1];by_cases h2:i=j*2
   ·rw [if_pos h2];unfold qe;rw [if_pos (by omega),show i / 2=j by omega,hs]
   ·rw [if_neg h2];exact hf i hi (by omega)
theorem ziP (h:w.rowIs g t n (qe L)) (j s:Nat) (hj:j=L.length) :
  ((w.setCell ⟨g,j*2,none⟩ (.int .u64 (lo s:Int))).setCell ⟨g,j*2+1,none⟩ (.int .u64 (hi s:Int))).rowIs g t n (qe (L++[s])) :=
 j8 h j s (fun i _ hi=>by unfold qe;simp only [jm,if_neg (show ¬ i / 2=L.length by omega)]) (by rw [jm,if_pos hj])
theorem ziR {s0:Nat} (h:w.rowIs g t n (qe (L++[s0]))) (j s:Nat) (hj:j=L.length) :
  ((w.setCell ⟨g,j*2,none⟩ (.int .u64 (lo s:Int))).setCell ⟨g,j*2+1,none⟩ (.int .u64 (hi s:Int))).rowIs g t n (qe (L++[s])) :=
 j8 h j s (fun i _ hi=>by unfold qe;simp only [jm,if_neg (show ¬ i / 2=L.length by omega)]) (by rw [jm,if_pos hj])
theorem ziQ (w:World) (m:Nat) (t:TypeId) (g:Nat) (hg:w.heap.size=g):(w.alloc (.cells (madeCells #[.int .u64 0,.int .u64 0] (m*2)) t)).rowIs g t (m*2) (qe []):=by
 subst hg;have e:∀ i,qe [] i = .int .u64 0:=fun i=>by unfold qe;simp [lo,hi]
 have h:=World.rowIs_alloc w (madeCells #[.int .u64 0,.int .u64 0] (m*2)) t (qe []) fun i hi=>?_
 ·rwa [size_madeCells] at h
 rw [e];rw [size_madeCells] at hi;have h2:i%2=0∨i%2=1:=by omega
 rcases h2 with h2 | h2 <;> simp [madeCells,hi,h2]
def yv (L:List Nat) (i:Nat):Value:=.string (za (L.getD i 0))
theorem ze0 (h:w.rowIs g t n (yv L)) (j s:Nat) (hj:j=L.length):(w.setCell ⟨g,j,none⟩ (.string (za s))).rowIs g t n (yv (L++[s])) :=
 (h.set j _).congr fun i hi=>by
  by_cases h1:i=j
  ·rw [if_pos h1];unfold yv;rw [jm,if_pos (by omega)]
  ·rw [if_neg h1];unfold yv;rw [jm,if_neg (by omega)]
theorem natsMade (w:World) (m:Nat) (t:TypeId) (g:Nat) (hg:w.heap.size=g):(w.alloc (.cells (madeCells #[.string ⟨#[]⟩] m) t)).rowIs g t m (yv []) :=
 pS w _ m t g hg fun i _=>by unfold yv;simp [za,oW]
end
end Cs
namespace Go.Proofs.YtmhllppjcilllaaGreatDoor
theorem zj0:(Tryz.prog.info? 96).map (fun i=>(i.zero,i.size,i.bytes))=some (some (.agg #[.int .u64 0,.int .u64 0]),2,16):=by kernel_rfl
theorem mk_set (n:Nat) (h:n≤1000000000) (u:World):(Instr.makeSlice 115 (.int .i64 (n:Int)) (.int .i64 (n:Int))).run Tryz.prog u =
  .ok (.slice (some ⟨u.heap.size,0,none⟩) n n) (u.alloc (.cells (madeCells #[.int .u64 0,.int .u64 0] (n*2)) 96)):=by
 obtain ⟨i0,hi,hz0,hz1,hz2⟩:=info_parts zj0;have hr:=run_make (P:=Tryz.prog) u 115 96 i0 _ Tryz.underlying115 hi hz0 .i64 .i64 n n (by omega) (Int.le_refl _) (by rw [hz2];omega) (by omega);simp only [Int.toNat_natCast,hz1] at hr;exact hr
theorem info_nat:(Tryz.prog.info? 31).map (fun i=>(i.zero,i.size,i.bytes))=some (some (.agg #[.string ⟨#[]⟩]),1,16):=by kernel_rfl
theorem mk_nat (n:Nat) (h:n≤1000000000) (u:World):(Instr.makeSlice 90 (.int .i64 (n:Int)) (.int .i64 (n:Int))).run Tryz.prog u =
  .ok (.slice (some ⟨u.heap.size,0,none⟩) n n) (u.alloc (.cells (madeCells #[.string ⟨#[]⟩] n) 31)):=by
 obtain ⟨i0,hi,hz0,hz1,hz2⟩:=info_parts info_nat;have hr:=run_make (P:=Tryz.prog) u 90 31 i0 _ Tryz.underlying90 hi hz0 .i64 .i64 n n (by omega) (Int.le_refl _) (by rw [hz2];omega) (by omega);simp only [Int.toNat_natCast,hz1,Nat.mul_one] at hr;exact hr
end Go.Proofs.YtmhllppjcilllaaGreatDoor
end
