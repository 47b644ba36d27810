import Derived.Test.YtoljkoifgnmbgaaGreatDoorRH
import Derived.Test.YtoljkoifgnmbgaaGreatDoorD1
import Derived.Test.YtoljkoifgnmbgaaGreatDoorKl
import Derived.WalkMore
set_option linter.unusedSimpArgs false
set_option linter.unusedVariables false
section
set_option maxRecDepth 100000
set_option maxHeartbeats 4000000
section
open Go Go.RowKit Cs
namespace Go.Proofs.YtoljkoifgnmbgaaGreatDoor
noncomputable def decV (v:Value):Nat:=open Classical in if h:∃ n,v = .string (dec n) then h.choose else 0
end Go.Proofs.YtoljkoifgnmbgaaGreatDoor
end
section
open Go Go.RowKit Cs
namespace Go.Proofs.YtoljkoifgnmbgaaGreatDoor
theorem rparts_slash (w:World) (s a b:ByteArray) (k:Nat) (hsz:s.size≤1000000) (hk:k≤s.size) (hne:∀ j (h:j<s.size),j<k→(s[j]'h).toNat≠47)
  (hend:(k=s.size∧a=s∧b=⟨#[49]⟩)∨(∃ h:k<s.size,(s[k]'h).toNat=47∧s.extract 0 k=a∧s.extract (k+1) s.size=b)) :
  Calls Tryz.prog 97 #[.string s] w fun e w'=>e = .returned (.tuple #[.string a,.string b])∧Below w.heap.size w w':=by
 have HNE:=zqh hne;have HEND:=zqh hend;clear hne hend
 go_enter Tryz.func97, Tryz.ntmps97
 go_wp2_with fail
 go_loopw [4] (fun t wr=>∃ i:Nat,i≤k∧t = .int .i64 (i:Int)∧wr=w) (fun t _=>s.size-(intOf t).toNat)
 case atStart=>exact ⟨0,Nat.zero_le _,rfl,rfl⟩
 case round =>
  obtain ⟨i,hi,rfl,rfl⟩:=hrel;rcases Nat.lt_or_ge i k with hik | hik
  ·have hlt:i<s.size:=by omega
   have hb:=HNE.out i hlt hik;have hb2:(((s[i]'hlt).toNat:Int)==47)=false:=beq_eq_false_iff_ne.2 (by exact_mod_cast hb);have d1:decide ((i:Int)<(s.size:Int))=true:=decide_eq_true (by omega)
   have i0:(0:Int)≤(i:Int):=by omega
   have i1:(i:Int)<(s.size:Int):=by omega
   clear hb
   go_wp2_with fail
   exact ⟨⟨i+1,by omega,by go_num,by first | rfl | trivial⟩,by simp [intOf];omega⟩
  ·obtain rfl:i=k:=by omega
   rcases HEND.out with ⟨h1,h2,h3⟩ | ⟨hlt,h1,h2,h3⟩
   ·have d1:decide ((i:Int)<(s.size:Int))=false:=decide_eq_false (by omega)
    have d2:¬ i<s.size:=by omega
    have d3:¬ (i:Int)<(s.size:Int):=by omega
    have d4:(s.size:Int)≤(i:Int):=by omega
    subst h2;subst h3;clear h1 HNE
    go_wp2_with fail
    go_ret2
    exact ⟨rfl,zqr _ _⟩
   ·have hb2:(((s[i]'hlt).toNat:Int)==47)=true:=by rw [h1];rfl
    have d1:decide ((i:Int)<(s.size:Int))=true:=decide_eq_true (by omega)
    have i0:(0:Int)≤(i:Int):=by omega
    have i1:(i:Int)<(s.size:Int):=by omega
    have i2:(i:Int)≤(s.size:Int):=by omega
    have i3:(i:Int)+1≤(s.size:Int):=by omega
    have i4:(0:Int)≤(i:Int)+1:=by omega
    have i5:decide ((0:Int)≤(i:Int))=true:=decide_eq_true i0;subst h2;subst h3;clear h1
    go_wp2_with fail
    go_region
    all_goals
     go_wp2_with fail
     go_ret2
     exact ⟨rfl,(zqr _ _).drew⟩
theorem dec_byte (V j:Nat) (h:j<(dec V).size):((dec V)[j]'h).toNat≠47:=by rw [dec_get];omega
def PT (s:ByteArray) (n d:Nat):Prop:=(s=dec n∧d=1)∨s=dec n++⟨#[47]⟩++dec d
theorem rparts_any (w:World) (s:ByteArray) (n d:Nat) (h:PT s n d) (hz:s.size≤1000000) :
  Calls Tryz.prog 97 #[.string s] w fun e w'=>e = .returned (.tuple #[.string (dec n),.string (dec d)])∧Below w.heap.size w w':=by
 rcases h with ⟨e,hd⟩ | e
 ·subst e;exact rparts_slash w _ _ _ (dec n).size (by omega) (zqn _) (fun j h _=>dec_byte _ j h) (.inl ⟨rfl,rfl,by rw [hd];decide +kernel⟩)
 ·have hc:=frac_cut n d;have hsl:=slash_frac n d;unfold cutN cutD at hc;rw [hsl,if_neg (by omega),if_neg (by omega),Int.toNat_natCast] at hc
  have hsize:(dec n++(⟨#[47]⟩:ByteArray)++dec d).size=(dec n).size+1+(dec d).size:=by rw [ByteArray.size_append,ByteArray.size_append];rfl
  have h1:=decN_one d;have h2:=dec_size d;subst e;refine rparts_slash w _ _ _ (dec n).size (by omega) (by omega) (fun j h hj=>?_) (.inr ⟨by omega,?_,hc.1,hc.2⟩)
  ·have e2:(dec n++(⟨#[47]⟩:ByteArray)++dec d)[j]'h=(dec n)[j]'hj:=by
    rw [ByteArray.getElem_append_left (by rw [ByteArray.size_append];omega),ByteArray.getElem_append_left hj]
   rw [e2];exact dec_byte _ j hj
  ·have e2:(dec n++(⟨#[47]⟩:ByteArray)++dec d)[(dec n).size]'(by omega)=47:=by
    rw [ByteArray.getElem_append_left (by rw [ByteArray.size_append];show _<_+1;omega),ByteArray.getElem_append_right (zqn _)];simp
    rfl
   rw [e2]
   rfl
structure TxAt (n:Nat) (la:List ByteArray) (pl:List Pr):Prop where
 ln:la.length=n+1
 pt:∀ v,1≤v→v≤n→PT (la.getD v ⟨#[]⟩) (pl.getD v (0,0)).1 (qd (pl.getD v (0,0)).2)
 sz:∀ v,1≤v→v≤n→(la.getD v ⟨#[]⟩).size≤1000
 dn:∀ v,1≤v→v≤n→decN (pl.getD v (0,0)).1≤100
 dd:∀ v,1≤v→v≤n→decN (qd (pl.getD v (0,0)).2)≤100
theorem rheavy_any (w:World) (n:Nat) (hn:n≤128) (la lb:List ByteArray) (pl ph:List Pr) (Al Ah:Option Addr) (cl ch:Nat) (hA:TxAt n la pl) (hB:TxAt n lb ph) (hrl:Rd w w.heap.size Al (n+1) (strF la)) (hrh:Rd w w.heap.size Ah (n+1) (strF lb)) :
  Calls Tryz.prog 54 #[.slice Al (n+1) cl,.slice Ah (n+1) ch] w fun e w'=>e = .returned (.bool (decide (16384<sumB pl n+sumB ph n)))∧Below w.heap.size w w':=by
 obtain ⟨ba,oa,rfl,hba,hca⟩:=hrl (by omega);obtain ⟨bh,oh,rfl,hbh,hch⟩:=hrh (by omega);have HCA:=zqh hca;have HCH:=zqh hch
 have hlen:∀ x,decN x≤100→nd 2 x≤400:=fun x h=>by have:=nd2_dec x 100 h;omega
 have HLN:=zqh hlen;have HA:=zqh hA;have HB:=zqh hB;clear hca hch hlen hA hB hrl hrh
 go_enter Tryz.func54, Tryz.ntmps54
 go_wp2_with fail
 go_loopw [5,6] (fun s t wr=>∃ k:Nat,k≤n∧t = .int .i64 ((k:Int)+1)∧s = .int .i64 ((sumB pl k+sumB ph k:Nat):Int)∧sumB pl k+sumB ph k≤k*1600∧Below w.heap.size w wr) (fun _ t _=>n+1-(intOf t).toNat)
 case atStart=>exact ⟨0,Nat.zero_le _,rfl,rfl,Nat.zero_le _,zqr _ _⟩
 case round =>
  obtain ⟨k,hk,rfl,rfl,hsm,hbel⟩:=hrel;rcases Nat.lt_or_ge k n with hlt | hge
  ·have c1:=(hbel.cell (p:=⟨ba,oa+(k+1),none⟩) hba).trans (HCA.out (k+1) (by omega));have c2:=(hbel.cell (p:=⟨bh,oh+(k+1),none⟩) hbh).trans (HCH.out (k+1) (by omega));have p1:=HA.out.pt (k+1) (by omega) (by omega);have p2:=HB.out.pt (k+1) (by omega) (by omega);have z1:=HA.out.sz (k+1) (by omega) (by omega);have z2:=HB.out.sz (k+1) (by omega) (by omega);have n1:=HA.out.dn (k+1) (by omega) (by omega);have n2:=HA.out.dd (k+1) (by omega) (by omega);have n3:=HB.out.dn (k+1) (by omega) (by omega);have n4:=HB.out.dd (k+1) (by omega) (by omega);have hs1:sumB pl (k+1)=sumB pl k+(nd 2 (pl.getD (k+1) (0,0)).1+nd 2 (qd (pl.getD (k+1) (0,0)).2)):=rfl;have hs2:sumB ph (k+1)=sumB ph k+(nd 2 (ph.getD (k+1) (0,0)).1+nd 2 (qd (ph.getD (k+1) (0,0)).2)):=rfl;unfold strF at c1 c2
   generalize la.getD (k+1) ⟨#[]⟩=sa at *
   generalize lb.getD (k+1) ⟨#[]⟩=sb at *
   generalize (pl.getD (k+1) (0,0)).1=x1 at *
   generalize qd (pl.getD (k+1) (0,0)).2=x2 at *
   generalize (ph.getD (k+1) (0,0)).1=x3 at *
   generalize qd (ph.getD (k+1) (0,0)).2=x4 at *
   have hpa:=fun W=>rparts_any W sa x1 x2 p1 (by omega);have hpb:=fun W=>rparts_any W sb x3 x4 p2 (by omega);have hl1:=fun W=>rlen_any W x1 (by omega);have hl2:=fun W=>rlen_any W x2 (by omega);have hl3:=fun W=>rlen_any W x3 (by omega);have hl4:=fun W=>rlen_any W x4 (by omega);have y1:=HLN.out x1 n1;have y2:=HLN.out x2 n2;have y3:=HLN.out x3 n3;have y4:=HLN.out x4 n4;have HPA:=zqh hpa;have HPB:=zqh hpb;have HL1:=zqh hl1;have HL2:=zqh hl2;have HL3:=zqh hl3;have HL4:=zqh hl4;have HS1:=zqh hs1;have HS2:=zqh hs2;have HBA:=zqh hba;have HBH:=zqh hbh;clear hpa hpb hl1 hl2 hl3 hl4 p1 p2 z1 z2 n1 n2 n3 n4 hs1 hs2
   generalize nd 2 x1=y1v at *
   generalize nd 2 x2=y2v at *
   generalize nd 2 x3=y3v at *
   generalize nd 2 x4=y4v at *
   obtain ⟨S,hS⟩:∃ S,sumB pl k+sumB ph k=S:=⟨_,rfl⟩
   have hS':sumB pl (k+1)+sumB ph (k+1)=S+y1v+y2v+y3v+y4v:=by rw [HS1.out,HS2.out];omega
   rw [hS] at hsm ⊢;have HSS:=zqh hS'
   have hSb:S≤204800:=by omega
   have d1:decide ((k:Int)+1<(n:Int)+1)=true:=decide_eq_true (by omega)
   have d2:k+1<n+1:=by omega
   have i0:(0:Int)≤(k:Int)+1:=by omega
   have i1:(k:Int)+1<(n:Int)+1:=by omega
   clear hS hS'
   go_wp2_with fail
   refine (HPA.out _).mono ?_;rintro e w1 ⟨rfl,hb1⟩;have hB1:=zqx hbel hb1 hbel.size;have c2':=below_cell hb1 (Nat.lt_of_lt_of_le HBH.out hbel.size) c2;clear c1 c2
   go_wp2_with fail
   refine (HPB.out _).mono ?_;rintro e w2 ⟨rfl,hb2⟩;have hB2:=zqx hB1 hb2 hB1.size;clear c2' hb1 hb2 hB1
   go_wp2_with fail
   refine (HL1.out _).mono ?_;rintro e w3 ⟨rfl,hb3⟩;have hB3:=zqx hB2 hb3 hB2.size
   go_wp2_with fail
   refine (HL2.out _).mono ?_;rintro e w4 ⟨rfl,hb4⟩;have hB4:=zqx hB3 hb4 hB3.size
   go_wp2_with fail
   refine (HL3.out _).mono ?_;rintro e w5 ⟨rfl,hb5⟩;have hB5:=zqx hB4 hb5 hB4.size
   go_wp2_with fail
   refine (HL4.out _).mono ?_;rintro e w6 ⟨rfl,hb6⟩;have hB6:=zqx hB5 hb6 hB5.size;clear hb3 hb4 hb5 hb6 hB2 hB3 hB4 hB5 hbel
   go_wp2_with fail
   refine ⟨⟨k+1,by omega,by go_num,?_,by rw [HSS.out,Nat.succ_mul];omega,hB6⟩,by simp [intOf] <;> omega⟩;rw [HSS.out]
   go_num
  ·obtain rfl:k=n:=by omega
   have d1:decide ((k:Int)+1<(k:Int)+1)=false:=decide_eq_false (by omega);obtain ⟨S,hS⟩:∃ S,sumB pl k+sumB ph k=S:=⟨_,rfl⟩;rw [hS];have HSS:=zqh hS;clear hS
   have hd:decide (16384<(S:Int))=decide (16384<S):=by
    by_cases h:16384<S
    ·rw [decide_eq_true h,decide_eq_true (by exact_mod_cast h)]
    ·rw [decide_eq_false h,decide_eq_false (by exact_mod_cast h)]
   go_wp2_with fail
   go_ret
   exact ⟨by rw [HSS.out,← hd];rfl,hbel⟩
end Go.Proofs.YtoljkoifgnmbgaaGreatDoor
end
end
section
open Go Go.RowKit Cs
namespace Cs
def oneL (k:Nat):List ByteArray:=List.replicate k ⟨#[49]⟩
theorem oneL_len (k:Nat):(oneL k).length=k:=List.length_replicate
theorem oneL_get {k i:Nat} (h:i<k):(oneL k).getD i ⟨#[]⟩=⟨#[49]⟩:=by
 unfold oneL;rw [List.getD_eq_getElem?_getD,List.getElem?_replicate,if_pos h]
 rfl
end Cs
namespace Go.Proofs.YtoljkoifgnmbgaaGreatDoor
theorem rdU:rdO ⟨#[49]⟩=some 1:=rd_of 1 _ (by decide +kernel) (by decide +kernel) (by decide +kernel) (by decide +kernel)
theorem oneL_ok (k:Nat):okL (oneL k) (oneL k).length:=fun i hi=>by
 rw [oneL_len] at hi;rw [oneL_get hi];exact ⟨⟨1,rdU⟩,by decide +kernel⟩
theorem prT_one:prT ⟨#[49]⟩=(1,1):=prT_of rdU (by decide +kernel)
theorem prL_one (k:Nat):prL (oneL k)=List.replicate k (1,1):=by
 unfold prL oneL;rw [List.map_replicate,prT_one]
theorem oneL_size (k i:Nat):((oneL k).getD i ⟨#[]⟩).size≤1:=by
 rcases Nat.lt_or_ge i k with h | h
 ·rw [oneL_get h];decide +kernel
 ·rw [List.getD_eq_getElem?_getD,List.getElem?_eq_none (by rw [oneL_len];exact h)];exact Nat.zero_le _
theorem decU:dec 1=⟨#[49]⟩:=by decide +kernel
theorem tx_one (n:Nat):TxAt n (oneL (n+1)) (onesP n):=by
 have e:∀ v,v≤n→(onesP n).getD v (0,0)=(1,1):=fun v h=>by
  unfold onesP;rw [List.getD_eq_getElem?_getD,List.getElem?_replicate,if_pos (by omega)]
  rfl
 have q1:qd 1=1:=qd_of (by decide);refine ⟨oneL_len _,fun v _ h2=>?_,fun v _ h2=>?_,fun v _ h2=>?_,fun v _ h2=>?_⟩
 ·rw [e v h2,oneL_get (by omega)];simp only;rw [q1];exact Or.inl ⟨decU.symm,rfl⟩
 ·exact Nat.le_trans (oneL_size _ _) (by decide)
 ·rw [e v h2];decide +kernel
 ·rw [e v h2];simp only;rw [q1];decide +kernel
theorem wchk_ones {N:Nt} {n x y:Nat} (hn:N.n=(n:Int)) (hv:vld N=true) (hx:(x:Int)=N.n+1) (hy:(y:Int)=N.n+1):wchk N (prL (oneL x)) (prL (oneL y))=cchk N:=by
 have hn128:=vn_le hv hn
 obtain rfl:x=n+1:=by omega
 obtain rfl:y=n+1:=by omega
 unfold wchk;rw [prL_one,if_pos ⟨hv,by rw [List.length_replicate];exact hx,by rw [List.length_replicate];exact hy⟩];split
 ·rename_i h;rw [h,show N.n.toNat=n by omega,if_neg];show ¬ 16384<sumB (onesP n) n+sumB (onesP n) n;rw [ones_bits n n (zqn _)];omega
 ·rfl
theorem wchk_bad {N:Nt} {x y:Nat} (h:¬ (vld N=true∧(x:Int)=N.n+1∧(y:Int)=N.n+1)):wchk N (prL (oneL x)) (prL (oneL y))=1:=by
 unfold wchk;rw [prL_one,prL_one,List.length_replicate,List.length_replicate,if_neg h]
theorem rnew_ones (w:World) (N:Nt) (A Ba Bb:Option Addr) (c ca cb x y:Nat) (hlen:N.l.length≤140737488355328) (hN:NtAt w w.heap.size A N.l)
  (h1:Rd w w.heap.size Ba x (strF (oneL x))) (h2:Rd w w.heap.size Bb y (strF (oneL y))) :
  Calls Tryz.prog 16 #[ntV N A c,.slice Ba x ca,.slice Bb y cb] w fun e w'=>(∃ q,e = .returned (.tuple #[q,.int .i64 (wchk N (prL (oneL x)) (prL (oneL y)))]))∧Below w.heap.size w w':=by
 by_cases hg:vld N=true∧(x:Int)=N.n+1∧(y:Int)=N.n+1
 ·obtain ⟨hv,e1,e2⟩:=hg;obtain ⟨hn0,hn1,hl0,hl1⟩:=vld_bounds hv;obtain ⟨n,hn⟩:∃ n:Nat,N.n=(n:Int):=⟨N.n.toNat,by omega⟩;have hn128:=vn_le hv hn;rw [wchk_ones hn hv e1 e2];by_cases hk:cchk N=0
  ·rw [hk];refine (rnew_ok w N A Ba Bb c ca cb x y hlen hN hv e1 e2 hk fun W hb=>?_).mono ?_
   ·obtain rfl:x=n+1:=by omega
    obtain rfl:y=n+1:=by omega
    refine (rheavy_any W n (by omega) _ _ (onesP n) (onesP n) Ba Bb ca cb (tx_one n) (tx_one n) ((h1.below hb).more hb.size) ((h2.below hb).more hb.size)).mono ?_;rintro e w' ⟨rfl,hb2⟩;refine ⟨?_,hb2⟩;rw [ones_bits n n (zqn _),decide_eq_false (by omega)]
   ·rintro e w' ⟨g,rfl,_,_,hb⟩;exact ⟨⟨_,rfl⟩,hb⟩
  ·refine (rnew_no w N A Ba Bb c ca cb x y (cchk N) hlen hN (Or.inr (Or.inr (Or.inr (Or.inl ⟨hv,e1,e2,hk,rfl⟩))))).mono ?_;rintro e w' ⟨rfl,hb⟩;exact ⟨⟨_,rfl⟩,hb⟩
 ·rw [wchk_bad hg];refine (rnew_no w N A Ba Bb c ca cb x y 1 hlen hN ?_).mono ?_
  ·cases hv:vld N
   ·exact Or.inl ⟨rfl,rfl⟩
   ·by_cases e1:(x:Int)=N.n+1
    ·exact Or.inr (Or.inr (Or.inl ⟨rfl,e1,fun e2=>hg ⟨hv,e1,e2⟩,rfl⟩))
    ·exact Or.inr (Or.inl ⟨rfl,e1,rfl⟩)
  ·rintro e w' ⟨rfl,hb⟩;exact ⟨⟨_,rfl⟩,hb⟩
theorem unew_ones (w:World) (N:Nt) (A:Option Addr) (c cl ch x y:Nat) (Al Ah:Option Addr) (hlen:N.l.length≤140737488355328) (hN:NtAt w w.heap.size A N.l) (hT:Tab w)
  (hin:∀ k (hk:k<N.l.length),N.l[k].ins.length≤1000000) (hb1:x≤140) (hb2:y≤140)
  (hlo:Rd w w.heap.size Al (x*2) (prsF (prL (oneL x)))) (hhi:Rd w w.heap.size Ah (y*2) (prsF (prL (oneL y)))) (hc1:x≤cl) (hc2:y≤ch) :
  Calls Tryz.prog 15 #[ntV N A c,wtsV Al Ah x y cl ch] w fun e w'=>(∃ p,e = .returned (.tuple #[.pointer p,.int .i64 (wchk N (prL (oneL x)) (prL (oneL y)))]) ∧
   ((wchk N (prL (oneL x)) (prL (oneL y))=0∧∃ g,p=some g)∨(wchk N (prL (oneL x)) (prL (oneL y))≠0∧p=none)))∧Below w.heap.size w w':=by
 have:=unew_any w N A c cl ch (oneL x) (oneL y) Al Ah hlen hN hT hin (oneL_ok x) (oneL_ok y) (by rw [oneL_len];exact hb1) (by rw [oneL_len];exact hb2) (by rw [oneL_len];exact hlo) (by rw [oneL_len];exact hhi) (by rw [oneL_len];exact hc1) (by rw [oneL_len];exact hc2);rw [oneL_len,oneL_len] at this;refine this.mono ?_;rintro e w' ⟨hb,⟨hac,g,E,rfl,_⟩ | ⟨hac,R,rfl,hR,rfl⟩⟩
 ·obtain ⟨_,_,h0⟩:=hac;refine ⟨⟨_,by rw [h0],Or.inl ⟨h0,_,rfl⟩⟩,hb⟩
 ·exact ⟨⟨none,rfl,Or.inr ⟨hR,rfl⟩⟩,hb⟩
end Go.Proofs.YtoljkoifgnmbgaaGreatDoor
end
