import Derived.Test.YtmhllppjcilllaaGreatDoorN1
import Derived.Lib.BitFns
import Derived.Lib.Tables
import Derived.Test.YtmhllppjcilllaaGreatDoorM1
set_option linter.unusedSimpArgs false
set_option linter.unusedVariables false
set_option maxRecDepth 100000
set_option maxHeartbeats 1000000
section
open Go Go.RowKit Cs
namespace Go.Proofs.YtmhllppjcilllaaGreatDoor
theorem pP:za 0=⟨#[]⟩:=by simp [za,oW]
theorem pow2_yes (w:World) (n:Int) (h0:0≤n) (h1:n≤4096) :
  Calls Tryz.prog 31 #[.int .i64 n] w fun e w'=>e = .returned (zN (2^n.toNat))∧Below w.heap.size w w':=by
 obtain ⟨m,rfl⟩:=Int.eq_ofNat_of_zero_le h0;rw [Int.toNat_natCast];have hm:m≤4096:=by omega
 have hmk:=zeZ (m / 32+1) (by omega);rw [Int.natCast_succ,Int.natCast_ediv] at hmk;simp only [Int.cast_ofNat_Int] at hmk;have hrow:=pS (w.alloc (.cells #[.string ⟨#[]⟩] 31)) (.int .u32 0) (m / 32+1) 124 (w.heap.size+1) (f:=fun _=>.int .u32 0) (by simp) (fun _ _=>rfl);have hc:=hrow.cell (i:=m / 32) (by omega);have hf:=hrow.frozen (m / 32);have hpw:2^(m%32)<4294967296:=by
  have:=Nat.pow_lt_pow_right (a:=2) (by decide) (show m%32<32 by omega);simpa using this
 go_enter Tryz.func31, Tryz.ntmps31;go_wp2_with fail
 have hv:((2:Int)^(m%32)%4294967296)=((2^(m%32):Nat):Int):=by
  rw [Int.natCast_pow];exact Int.emod_eq_of_lt (Int.pow_nonneg (by decide)) (by have:=Int.ofNat_lt.2 hpw;simpa using this)
 have hr2:=hrow.set (m / 32) (.int .u32 (2^(m%32)%4294967296));rw [World.setCell_alloc_at _ _ _ _ _ (by simp)] at hr2;have hr3:=hr2.congr (g:=fun i=>.int .u32 (wd (2^m) i)) fun i _=>by
  rw [wd_pow2];split
  ·rw [hv]
  ·rfl
 have hbx0:=(qF w (.string ⟨#[]⟩) 31 _ rfl).alloc (.cells ((madeCells #[.int .u32 0] (m / 32+1)).setIfInBounds (m / 32) (.int .u32 (2^(m%32)%4294967296))) 124);refine (zbX _ _ (m / 32+1) (m / 32+1) (2^m) (by omega) (fun i hi=>hr3.cell hi) hr3.lt ?_).mono ?_
 ·rw [q8];exact Nat.pow_lt_pow_right (by decide) (by omega)
 rintro e w1 ⟨rfl,hb1⟩;have hbx:=zo hbx0 hb1;clear hc hf hr2 hr3 hbx0 hrow hmk hv hpw;have hc:=zV hbx;have hf:=hbx.frozen 0;go_wp2;exact pZ rfl _ rfl (qZ hbx _) rfl ⟨rfl,((((zx _ _).alloc (zu _) _).alloc (by simp) _).trans (hb1.mono (by simp;omega))).setCell (zu _) _⟩
theorem len8_any (x:Int) (w:World) (h0:0≤x) (h1:x≤255) :
  Calls Tryz.prog 123 #[.int .u8 x] w fun e w'=>e = .returned (.int .i64 (Lib.bitLen x.toNat))∧w=w':=by
 rw [← Lib.len8_int x h0 h1];go_enter Tryz.func123, Tryz.ntmps123;go_wp2;go_ret;refine ⟨zgl (a:=wrap64 (Lib.len8 x)) ?_,rfl⟩;unfold wrap64;rfl
theorem zcR:∀ (f x:Nat),x<2^f→Lib.bitLenAux f x=nd 2 x
 | 0,x,h=>by
   have:x=0:=by simpa using h
   subst this;simp [Lib.bitLenAux,zcq]
 | f+1,x,h=>by
   rw [Lib.bitLenAux];split
   ·rename_i h0;subst h0;rw [zcq]
   ·rename_i h0;rw [zfK 2 x (by decide) (by omega),zcR f (x / 2) (by rw [Nat.pow_succ] at h;omega)]
theorem pA (x:Nat) (h:x<256):Lib.bitLen x=nd 2 x :=
 zcR 64 x (by omega)
theorem zb7 (w:World) (V:Nat) (hV:n8 V≤10000000) :
  Calls Tryz.prog 81 #[zN V] w fun e w'=>e = .returned (.int .i64 (nd 2 V))∧Below w.heap.size w w':=by
 have hs:=zb0 V;have hg:=zcZ V;have hle:(za V).size≤10000000:=by omega
 show Calls _ _ #[.agg #[.string (za V)]] _ _;generalize za V=s at *
 have Hs:=zb hs;clear hs;have Hg:=zb hg;clear hg;rcases Nat.eq_zero_or_pos s.size with h0 | h0
 ·have hV0:V=0:=(zbm 256 (by decide) V).1 (by rw [← h0];exact Hs.out.symm);have hd:nd 2 V=0:=by rw [hV0,zcq]
  rw [hd];have h1:((s.size:Int)==0)=true:=beq_iff_eq.2 (by omega);clear h0 hV0 hd;go_enter Tryz.func81, Tryz.ntmps81;go_wp2;go_ret;exact ⟨rfl,(zx _ _).alloc (zu _) _⟩
 ·have hV0:0<V:=by
   rcases Nat.eq_zero_or_pos V with h | h
   ·have:=Hs.out;rw [h,oW] at this;omega
   ·exact h
  have hd:=zhw V hV0;rw [hd];have h1:((s.size:Int)==0)=false:=beq_eq_false_iff_ne.2 (by omega);have h2:(0:Int)≤(s.size:Int)-1:=by omega
  have h3:(s.size:Int)-1<(s.size:Int):=by omega
  clear hd hV0;go_enter Tryz.func81, Tryz.ntmps81;have hbb:=zjA V (s.size-1);have hsb:((s[s.size-1]'(by omega)).toNat:Int)=(ql V (s.size-1):Int):=by rw [Hg.out]
  have Hsb:=zb hsb;clear hsb;go_wp2_with fail
  rw [Hsb.out];refine (len8_any _ _ (by omega) (by omega)).mono ?_;rintro e w1 ⟨rfl,rfl⟩;rw [Int.toNat_natCast,pA _ hbb];have hbl:=(yg 2 (by decide) 8 (ql V (s.size-1))).2 (by omega);go_wp2;go_ret;refine ⟨zgl ?_,(zx _ _).alloc (zu _) _⟩;rw [← Hs.out];omega
theorem cmp_eq (w:World) (V:Nat) :
  Calls Tryz.prog 72 #[zN V,zN V] w fun e w'=>e = .returned (.int .i64 0)∧Below w.heap.size w w':=by
 show Calls _ _ #[.agg #[.string (za V)],.agg #[.string (za V)]] _ _;generalize za V=s at *
 go_enter Tryz.func72, Tryz.ntmps72;go_wp2;go_ret;exact ⟨rfl,((zx _ _).alloc (zu _) _).alloc (by simp) _⟩
theorem cmp_ne (w:World) (a b:Nat) (hab:a≠b) (ha:n8 a≤10000000) (hb:n8 b≤10000000) :
  Calls Tryz.prog 72 #[zN a,zN b] w fun e w'=>e = .returned (.int .i64 (qv a b))∧Below w.heap.size w w':=by
 have hs:=zb0 a;have hg:=zcZ a;have ht:=zb0 b;have hh:=zcZ b;have hne:za a≠za b:=fun h=>hab (zjv h);have hcN:a<b→qv a b = -1:=fun h=>by unfold qv;rw [if_pos h]
 have hcP:b<a→qv a b=1:=fun h=>by unfold qv;rw [if_neg (by omega),if_neg (by omega)]
 show Calls _ _ #[.agg #[.string (za a)],.agg #[.string (za b)]] _ _;generalize za a=s at *
 generalize za b=t at *
 have hle1:s.size≤10000000:=by omega
 have hle2:t.size≤10000000:=by omega
 have hst:(s.toList==t.toList)=false:=by
  rw [beq_eq_false_iff_ne,ByteArray.toList_eq,ByteArray.toList_eq];exact fun h=>hne (ByteArray.ext (Array.toList_inj.1 h))
 have Hs:=zb hs;clear hs;have Hg:=zb hg;clear hg;have Ht:=zb ht;clear ht;have Hh:=zb hh;clear hh;have HN:=zb hcN;clear hcN;have HP:=zb hcP;clear hcP;have Hne:=zb hab;clear hab hne;have hc1:=zV ((qF w (.string s) 31 _ rfl).alloc (.cells #[.string t] 31));have hc2:=zV (qF (w.alloc (.cells #[.string s] 31)) (.string t) 31 (w.heap.size+1) (by simp));have hbl:Below w.heap.size w ((w.alloc (.cells #[.string s] 31)).alloc (.cells #[.string t] 31)):=((zx _ _).alloc (zu _) _).alloc (by simp) _;by_cases hl:s.size=t.size
 ·have h1:((s.size:Int) != (t.size:Int))=false:=by rw [bne_eq_false_iff_eq];omega
  have Hl:=zb hl;clear hl;go_enter Tryz.func72, Tryz.ntmps72;have hb1:=(qF w (.string s) 31 _ rfl).alloc (.cells #[.string t] 31);have hb2:=qF (w.alloc (.cells #[.string s] 31)) (.string t) 31 (w.heap.size+1) (by simp);go_wp2;go_loopw [5] (fun i wr=>∃ k:Nat,k≤s.size∧i = .int .i64 ((k:Int)-1)∧Hid (a / 2^(8*k)=b / 2^(8*k))∧wr.rowIs w.heap.size 31 1 (fun _=>.string s)∧wr.rowIs (w.heap.size+1) 31 1 (fun _=>.string t)∧Below w.heap.size w wr)
   (fun i _=>(intOf i+1).toNat)
  case atStart =>
   refine ⟨s.size,by omega,rfl,?_,hb1,hb2,hbl⟩;show _=_;rw [div_n8 a _ (by rw [← Hs.out];omega),div_n8 b _ (by rw [← Ht.out,← Hl.out];omega)]
  case round =>
   clear hc1 hc2 hb1 hb2 hbl;obtain ⟨k,hk,rfl,hq,hx1,hx2,hbl⟩:=hrel;have hc1:=zV hx1;have hc2:=zV hx2;rcases Nat.eq_zero_or_pos k with h0 | h0
   ·subst h0;exact absurd (by have:=hq.out;simpa using this) Hne.out
   ·have hkt:k-1<t.size:=by rw [← Hl.out];omega
    have i0:(0:Int)≤(k:Int)-1:=by omega
    have i1:(k:Int)-1<(s.size:Int):=by omega
    have i2:(k:Int)-1<(t.size:Int):=by omega
    have hq':a / 2^(8*(k-1+1))=b / 2^(8*(k-1+1)):=by rw [Nat.sub_add_cancel h0];exact hq.out
    have e1:=Hg.out (k-1) (by omega);have e2:=Hh.out (k-1) hkt;rcases Nat.lt_trichotomy (ql a (k-1)) (ql b (k-1)) with hlt | heq | hgt
    ·have hr:=HN.out (zj8 a b (k-1) hq' hlt);have ht:(s[k-1]'(by omega)).toNat<(t[k-1]'hkt).toNat:=by omega
     have Hr:=zb hr;clear hr hq' e1 e2 hlt;go_wp2
     go_quiet (fail)
     go_wp2;go_ret;exact ⟨by rw [Hr.out];rfl,qV hbl _⟩
    ·have hr:=cmp_same a b (k-1) hq' heq;have ht:(s[k-1]'(by omega)).toNat≤(t[k-1]'hkt).toNat:=by omega
     have ht2:(t[k-1]'hkt).toNat≤(s[k-1]'(by omega)).toNat:=by omega
     have Hr:=zb hr;clear hr hq' e1 e2 heq;go_wp2
     go_quiet (fail)
     go_wp2
     go_quiet (fail)
     go_wp2;go_roundw
     case rel=>exact ⟨k-1,by omega,by go_num,Hr,qT hx1 _,qT hx2 _,qV hbl _⟩
     case measure=>simp [intOf];omega
    ·have hr:=HP.out (zj8 b a (k-1) hq'.symm hgt);have ht:(t[k-1]'hkt).toNat<(s[k-1]'(by omega)).toNat:=by omega
     have ht2:¬ (s[k-1]'(by omega)).toNat<(t[k-1]'hkt).toNat:=by omega
     have Hr:=zb hr;clear hr hq' e1 e2 hgt;go_wp2
     go_quiet (fail)
     go_wp2
     go_quiet (fail)
     go_wp2;go_ret;exact ⟨by rw [Hr.out];rfl,qV (qV hbl _) _⟩
 ·have h1:((s.size:Int) != (t.size:Int))=true:=by rw [bne_iff_ne];omega
  rcases Nat.lt_or_gt_of_ne hl with h2 | h2
  ·have h3:a<b:=om _ _ (by rw [← Hs.out,← Ht.out];exact h2);rw [HN.out h3];clear h3 hl;go_enter Tryz.func72, Tryz.ntmps72;go_wp2;go_ret;exact ⟨rfl,hbl⟩
  ·have h3:b<a:=om _ _ (by rw [← Hs.out,← Ht.out];exact h2);rw [HP.out h3];have h4:¬ s.size<t.size:=by omega
   clear h3 hl;go_enter Tryz.func72, Tryz.ntmps72;go_wp2;go_ret;exact ⟨rfl,hbl⟩
theorem zgF (w:World) (a b:Nat) (ha:n8 a≤10000000) (hb:n8 b≤10000000) :
  Calls Tryz.prog 72 #[zN a,zN b] w fun e w'=>e = .returned (.int .i64 (qv a b))∧Below w.heap.size w w':=by
 by_cases h:a=b
 ·subst h;have:qv a a=0:=by unfold qv;rw [if_neg (by omega),if_pos rfl]
  rw [this];exact cmp_eq w a
 ·exact cmp_ne w a b h ha hb
end Go.Proofs.YtmhllppjcilllaaGreatDoor
end
section
open Go Go.RowKit Cs
namespace Go.Proofs.YtmhllppjcilllaaGreatDoor
theorem jP (w:World) (a b:Nat) (ha:n8 a≤1000000) (hb:n8 b≤1000000) :
  Calls Tryz.prog 33 #[zN a,zN b] w fun e w'=>e = .returned (zN (a*b))∧Below w.heap.size w w':=by
 go_enter Tryz.func33, Tryz.ntmps33;go_wp2_with fail
 go_region_held3 (fun w'=>w'.cell? ⟨w.heap.size,0,none⟩=some (.string (za a))∧w'.cell? ⟨w.heap.size+1,0,none⟩=some (.string (za b)))
  (first | go_keep | exact ⟨hk3,hk4⟩ | exact ⟨hk1,hk2⟩)
  (first
    | ((go_at_call 78;(with_reducible refine (pT _ a (by omega)).mono ?_);rintro e w1 ⟨g1,hg1,rfl,hr1,hb1⟩;simp at hg1
        have hk1:w1.cell? ⟨w.heap.size,0,none⟩=some (.string (za a)):=(hb1.cell (p:=⟨w.heap.size,0,none⟩) (by simp;omega)).trans (by go_simp);have hk2:w1.cell? ⟨w.heap.size+1,0,none⟩=some (.string (za b)):=(hb1.cell (p:=⟨w.heap.size+1,0,none⟩) (by simp)).trans (by go_simp)))
    | ((go_at_call 78;(with_reducible refine (pT _ b (by omega)).mono ?_);rintro e w2 ⟨g2,hg2,rfl,hr2,hb2⟩
        have hk3:w2.cell? ⟨w.heap.size,0,none⟩=some (.string (za a)):=(hb2.cell (p:=⟨w.heap.size,0,none⟩) (by have:=hb1.size;simp at this ⊢;omega)).trans hk1;have hk4:w2.cell? ⟨w.heap.size+1,0,none⟩=some (.string (za b)):=(hb2.cell (p:=⟨w.heap.size+1,0,none⟩) (by have:=hb1.size;simp at this ⊢;omega)).trans hk2)))
 have hz1:=hb1.size;simp at hz1;have hz2:=hb2.size;have hlt1:=hr1.lt;have hlt2:=hr2.lt;replace hr1:=zo hr1 hb2;have hbox:w2.rowIs (w.heap.size+1+1) 31 1 fun _=>.string ⟨#[]⟩:=zo (zo (qF ((w.alloc _).alloc _) _ _ _ (by simp)).drew hb1) hb2;have hbel:Below w.heap.size w w2:=((((((zx _ _).alloc (zu _) _).alloc (by simp) _).alloc (by simp;omega) _).drew).trans (hb1.mono (by simp;omega))).trans (hb2.mono (by omega));clear hb1 hb2 hk1 hk2 hk3 hk4;have hna:nw a≤1000000:=by unfold nw;omega
 have hnb:nw b≤1000000:=by unfold nw;omega
 have hmk:=zeZ (nw a+nw b) (by omega);rw [Int.natCast_add] at hmk;go_wp2;go_loopw [24] (fun t wr=>∃ i:Nat,i≤nw a∧t = .int .i64 i∧wr.rowIs (w.heap.size+1+1) 31 1 (fun _=>.string ⟨#[]⟩) ∧
   wr.rowIs g1 124 (nw a) (fun i=>.int .u32 (wd a i))∧wr.rowIs g2 124 (nw b) (fun i=>.int .u32 (wd b i)) ∧
   wr.rowIs w2.heap.size 124 (nw a+nw b) (fun j=>.int .u32 (wd (mM a b i) j))∧Below w.heap.size w wr)
  (fun t _=>nw a-(intOf t).toNat)
 case atStart =>
  refine ⟨0,by omega,rfl,hbox.alloc _,hr1.alloc _,hr2.alloc _,pS _ _ _ _ _ rfl fun i _=>?_,hbel.alloc (by omega) _⟩;rw [m_zero];simp [wd]
 case round =>
  clear hbox hr1 hr2 hbel hmk;obtain ⟨i,hi,rfl,hbox,hr1,hr2,hr3,hbel⟩:=hrel;by_cases hlt:i<nw a
  ·have hc1:=hr1.cell hlt;have hwa:=qz a i;go_wp2;go_loopw [10,31] (fun c t wr=>∃ k:Nat,k≤nw b∧t = .int .i64 k∧c = .int .u64 (cC a b i k)∧wr.rowIs (w.heap.size+1+1) 31 1 (fun _=>.string ⟨#[]⟩) ∧
     wr.rowIs g1 124 (nw a) (fun i=>.int .u32 (wd a i))∧wr.rowIs g2 124 (nw b) (fun i=>.int .u32 (wd b i)) ∧
     wr.rowIs w2.heap.size 124 (nw a+nw b) (fun j=>.int .u32 (if j<i+k then wd (tT a b i k) j else wd (mM a b i) j))∧Below w.heap.size w wr)
    (fun _ t _=>nw b-(intOf t).toNat)
   case atStart =>
    exact ⟨0,by omega,rfl,by rw [c_zero];rfl,hbox,hr1,hr2,hr3.congr fun j _=>by rw [t_zero];simp,hbel⟩
   case round =>
    clear hbox hr1 hr2 hr3 hbel hc1;obtain ⟨k,hk,rfl,rfl,hbox,hr1,hr2,hr3,hbel⟩:=hrel;have hcl:=c_le a b i k;by_cases hltk:k<nw b
    ·have hc2:=hr2.cell hltk;have hc3:=hr3.cell (i:=i+k) (by omega);rw [if_neg (Nat.lt_irrefl _)] at hc3;have hf3:=hr3.frozen (i+k);have hwb:=qz b k;have hwm:=qz (mM a b i) (i+k);have hmul:(wd a i:Int)*(wd b k:Int)≤18446744065119617025:=by
      have:=Int.ofNat_le.2 (zhz a b i k);simpa using this
     have hmul0:(0:Int)≤(wd a i:Int)*(wd b k:Int):=Int.mul_nonneg (by omega) (by omega);go_wp2
     go_quiet (fail)
     go_wp2;have e1:((cC a b i k:Int)+((wd (mM a b i) (i+k):Int)+(wd a i:Int)*(wd b k:Int))) / 4294967296=((cC a b i (k+1):Nat):Int):=by rw [← zf9];simp
     have e2:((cC a b i k:Int)+((wd (mM a b i) (i+k):Int)+(wd a i:Int)*(wd b k:Int)))%4294967296=((wd (tT a b i (k+1)) (i+k):Nat):Int):=by rw [← xz];simp
     rw [e1,e2];go_roundw
     case rel =>
      refine ⟨k+1,by omega,by go_num,rfl,(qT hbox _).setOther (by simp;omega) _,(qT hr1 _).setOther (by simp;omega) _,(qT hr2 _).setOther (by simp;omega) _,?_,(qV hbel _).setCell (by simp;omega) _⟩;refine ((qT hr3 _).set _ _).congr fun j hj=>?_;split
      ·subst j;rw [if_pos (by omega)]
      ·by_cases h:j<i+k
       ·rw [if_pos h,if_pos (by omega),step_low a b i k j h]
       ·rw [if_neg h,if_neg (by omega)]
     case measure=>simp [intOf];omega
    ·obtain rfl:k=nw b:=by omega
     have hc3:=hr3.cell (i:=i+nw b) (by omega);have hf3:=hr3.frozen (i+nw b);have hr4:=(hr3.set (i+nw b) (.int .u32 ((cC a b i (nw b):Int)%4294967296))).congr (g:=fun j=>.int .u32 (wd (mM a b (i+1)) j)) fun j hj=>by
      have hw:=c_end a b i (nw b) (zu _);split
      ·subst j;rw [← hw];rfl
      ·rename_i hne;by_cases h:j<i+nw b
       ·rw [if_pos h,t_end a b i _ (zu _)]
       ·rw [if_neg h,m_high a b i j (by omega),m_high a b (i+1) j (by omega)]
     have hbox4:=hbox.setOther (a:=⟨w2.heap.size,i+nw b,none⟩) (by simp;omega) (.int .u32 ((cC a b i (nw b):Int)%4294967296));have hr14:=hr1.setOther (a:=⟨w2.heap.size,i+nw b,none⟩) (by simp;omega) (.int .u32 ((cC a b i (nw b):Int)%4294967296));have hr24:=hr2.setOther (a:=⟨w2.heap.size,i+nw b,none⟩) (by simp;omega) (.int .u32 ((cC a b i (nw b):Int)%4294967296));have hbel4:=hbel.setCell (p:=⟨w2.heap.size,i+nw b,none⟩) (by simp;omega) (.int .u32 ((cC a b i (nw b):Int)%4294967296));have hmod:(cC a b i (nw b):Int)%4294967296=(cC a b i (nw b):Int):=Int.emod_eq_of_lt (by omega) (by omega);rw [hmod] at hr4 hbox4 hr14 hr24 hbel4;clear hmod;go_wp2;go_roundw
     case rel=>exact ⟨i+1,by omega,by go_num,hbox4,hr14,hr24,hr4,hbel4⟩
     case measure=>simp [intOf];omega
  ·obtain rfl:i=nw a:=by omega
   have hr4:=hr3.congr (g:=fun j=>.int .u32 (wd (a*b) j)) fun j hj=>by rw [m_end a b _ (zu _)]
   go_wp2_with fail
   refine (zbX _ _ (nw a+nw b) (nw a+nw b) (a*b) (by omega) (fun i hi=>hr4.cell hi) hr4.lt ?_).mono ?_
   ·have:=yK a b;rw [q8,Nat.mul_add,Nat.pow_add];exact Nat.mul_lt_mul'' ((q8 _ _).1 (zu _)) ((q8 _ _).1 (zu _))
   rintro e w5 ⟨rfl,hb5⟩;have hbx:=zo hbox hb5;have hc:=zV hbx;have hf:=hbx.frozen 0;go_wp2;exact pZ rfl _ rfl (qZ hbx _) rfl ⟨rfl,(hbel.trans (hb5.mono (by have:=hbel.size;omega))).setCell (by simp;omega) _⟩
end Go.Proofs.YtmhllppjcilllaaGreatDoor
end
