import Derived.Test.YtmhllppjcilllaaGreatDoorN1
import Derived.Test.YtmhllppjcilllaaGreatDoorM1
import Derived.Laws.OwnMore
import Derived.BigGuardPart
import Derived.Laws.ResultCell
import Derived.Test.YtmhllppjcilllaaGreatDoorDl
import Derived.Test.YtmhllppjcilllaaGreatDoorN3
import Derived.Lib.Bytealg
import Derived.Lib.Strings
import Derived.Laws.Externs
import Derived.Laws.Strings3
import Derived.BigRegion
import Derived.Test.YtmhllppjcilllaaGreatDoorQ2
import Derived.Laws.EntriesVeiled
import Derived.Deep.CutRange
import Derived.WalkMore
import Derived.Deep.CutBlock
import Derived.Test.YtmhllppjcilllaaGreatDoorDt
import Derived.Test.YtmhllppjcilllaaGreatDoorDs
import Derived.Lib.SliceRun
import Derived.Maps.AppendAt
import Derived.OneCell
set_option linter.unusedSimpArgs false
set_option linter.unusedVariables false
section
set_option maxRecDepth 100000
set_option maxHeartbeats 1000000
section
section
open Go Go.RowKit Cs
namespace Cs
def digV (s:List UInt8):Nat→Nat
 | 0=>0
 | k+1=>digV s k*10+((s.getD k 0).toNat-48)
end Cs
end
section
open Go Go.RowKit Cs
namespace Cs
def allDig (s:ByteArray):Prop:=∀ k (h:k<s.size),48≤s[k].toNat∧s[k].toNat≤57
structure IsNum (s:ByteArray):Prop where
 pos:0<s.size
 few:s.size≤2000
 dig:allDig s
 led:∀ h:1<s.size,s[0].toNat≠48
end Cs
end
end
section
section
open Go Go.RowKit Cs
namespace Go.Proofs.YtmhllppjcilllaaGreatDoor
def ptext (n d:Nat):ByteArray:=if qd d=1 then zc n else zc n++⟨#[47]⟩++zc d
theorem zcw (w:World) (n d:Nat) (hn:n8 n≤100000) (hd:n8 d≤100000):Calls Tryz.prog 28 #[zI n d] w fun e w'=>e = .returned (.string (ptext n d))∧Below w.heap.size w w':=by
 have hde:=fun W=>oV W n d (by omega);have h1:=yP d hd;have hcm:=fun W=>zgF W (qd d) 1 (by omega) (by have:=ja (n:=1) (by decide);omega);have htn:=fun W=>ziJ W n (by omega);have htd:=fun W=>ziJ W d (by omega);have hq:=pN w n d 33 _ rfl;have hbel:=(Below.refl w.heap.size w).alloc (zu _) (.cells #[.string (za n),.string (za d)] 33);have hcz:(qv (qd d) 1==0)=decide (qd d=1):=by
  have:(qv (qd d) 1=0)↔qd d=1:=by
   unfold qv;split
   ·constructor <;> intro h <;> omega
   ·split
    ·simp [*]
    ·simp [*]
  by_cases h:qd d=1
  ·rw [decide_eq_true h];simpa using this.2 h
  ·rw [decide_eq_false h];simpa using fun h2=>h (this.1 h2)
 have hpt:ptext n d=if qd d=1 then zc n else zc n++⟨#[47]⟩++zc d:=rfl
 rw [hpt];clear hpt;have hsn:(zc n).size≤300000:=by rw [qS];have:=ziq n _ hn;unfold zz;omega
 have hsd:(zc d).size≤300000:=by rw [qS];have:=ziq d _ hd;unfold zz;omega
 have hs1:∀ W:World,(Op.stringOp .add (zc n) ⟨#[47]⟩).run Tryz.prog W = .ok (.string (zc n++⟨#[47]⟩)) W:=fun W=>run_string_add_sum W _ _ (by have:(ByteArray.mk #[47]).size=1:=rfl;omega);have hs2:∀ W:World,(Op.stringOp .add (zc n++⟨#[47]⟩) (zc d)).run Tryz.prog W = .ok (.string (zc n++⟨#[47]⟩++zc d)) W:=fun W=>run_string_add_sum W _ _ (by
  rw [ByteArray.size_append];have:(ByteArray.mk #[47]).size=1:=rfl;omega)
 clear hsn hsd;generalize qv (qd d) 1=M at *
 generalize qd d=Q at *
 generalize zc n=DN at *
 generalize zc d=DD at *
 have HDE:=zb hde;have HCM:=zb hcm;have HTN:=zb htn;have HTD:=zb htd;clear hde hcm htn htd h1 hn hd;have HIF:Hid ((if Q=1 then DN else DN++⟨#[47]⟩++DD)=(if (M==0)=true then DN else DN++⟨#[47]⟩++DD)):=zb (by rw [hcz];by_cases h:Q=1 <;> simp [h]);rw [HIF.out];clear hcz HIF;rcases Bool.eq_false_or_eq_true (M==0) with hM | hM
 ·rw [if_pos hM];go_enter Tryz.func28, Tryz.ntmps28;go_wp2_with (first
   | (go_at_call 73
      (with_reducible refine (HDE.out _).mono ?_);rintro e w1 ⟨rfl,hb1⟩;replace hq:=zo hq hb1;have hz1:=hb1.size;simp at hz1;replace hbel:=hbel.trans (hb1.mono (by simp));clear hb1)
   | (go_at_call 34
      (with_reducible refine (jD _).mono ?_);rintro e w2 ⟨rfl,hb2⟩;replace hq:=zo hq hb2;have hz2:=hb2.size;replace hbel:=hbel.trans (hb2.mono (by omega));clear hb2)
   | (go_at_call 72
      (with_reducible refine (HCM.out _).mono ?_);rintro e w3 ⟨rfl,hb3⟩;replace hq:=zo hq hb3;have hz3:=hb3.size;replace hbel:=hbel.trans (hb3.mono (by omega));obtain ⟨c0,c1⟩:=qj hq;clear hb3)
   | (go_at_call 47
      (with_reducible refine (HTN.out _).mono ?_);rintro e w4 ⟨rfl,hb4⟩;replace hbel:=hbel.trans (hb4.mono (by omega))))
  go_ret;exact ⟨rfl,hbel⟩
 ·rw [if_neg (by rw [hM];decide)];go_enter Tryz.func28, Tryz.ntmps28;go_wp2_with (first
   | (go_at_call 73
      (with_reducible refine (HDE.out _).mono ?_);rintro e w1 ⟨rfl,hb1⟩;replace hq:=zo hq hb1;have hz1:=hb1.size;simp at hz1;replace hbel:=hbel.trans (hb1.mono (by simp));clear hb1)
   | (go_at_call 34
      (with_reducible refine (jD _).mono ?_);rintro e w2 ⟨rfl,hb2⟩;replace hq:=zo hq hb2;have hz2:=hb2.size;replace hbel:=hbel.trans (hb2.mono (by omega));clear hb2)
   | (go_at_call 72
      (with_reducible refine (HCM.out _).mono ?_);rintro e w3 ⟨rfl,hb3⟩;replace hq:=zo hq hb3;have hz3:=hb3.size;replace hbel:=hbel.trans (hb3.mono (by omega));obtain ⟨c0,c1⟩:=qj hq;clear hb3)
   | (go_at_call 47
      (with_reducible refine (HTN.out _).mono ?_);rintro e w4 ⟨rfl,hb4⟩;replace hbel:=hbel.trans (hb4.mono (by omega))))
  replace hq:=hq.drew;have hbd:Below w.heap.size w w3.drew:=hbel.drew;obtain ⟨c0,c1⟩:=qj hq;go_region_held3 (fun w'=>w'.cell? ⟨w.heap.size,0,none⟩=some (.string (za n))∧w'.cell? ⟨w.heap.size,1,none⟩=some (.string (za d)))
   (first | exact ⟨c0,c1⟩ | go_keep)
   (first
     | (go_simp
        go_at_call 47;(with_reducible first | refine (HTN.out _).mono ?_ | refine (HTD.out _).mono ?_);rintro e w9 ⟨rfl,hb9⟩;replace hbd:=hbd.trans (hb9.mono (by have:=hbd.size;omega));replace hq:=zo hq hb9;obtain ⟨c0,c1⟩:=qj hq))
  all_goals
   try go_wp2
   go_ret;exact ⟨rfl,hbd⟩
end Go.Proofs.YtmhllppjcilllaaGreatDoor
end
section
open Go Go.RowKit Cs
namespace Cs
def yZ (s:ByteArray):Int:=Lib.indexByte s.data.toList 47
end Cs
namespace Go.Proofs.YtmhllppjcilllaaGreatDoor
def cutN (s:ByteArray):ByteArray:=if yZ s = -1 then s else s.extract 0 (yZ s).toNat
def cutD (s:ByteArray):ByteArray:=if yZ s = -1 then ⟨#[]⟩ else s.extract ((yZ s).toNat+1) s.size
end Go.Proofs.YtmhllppjcilllaaGreatDoor
end
section
open Go Go.RowKit Cs
namespace Cs
def nuV (s:ByteArray):Nat:=digV s.data.toList s.size
end Cs
end
end
section
section
open Go Go.RowKit Cs
namespace Cs
theorem ptext_q {q:Rat}:Go.Proofs.YtmhllppjcilllaaGreatDoor.ptext (qn q) q.den=zgp q:=by
 unfold Go.Proofs.YtmhllppjcilllaaGreatDoor.ptext zgp;rw [qM (Rat.den_pos q)]
end Cs
end
section
open Go Go.RowKit Cs
namespace Go.Proofs.YtmhllppjcilllaaGreatDoor
open Classical in
noncomputable def rdO (s:ByteArray):Option Rat :=
 if yZ s = -1 then (if IsNum s then some ((nuV s:Nat):Rat) else none)
 else if IsNum (cutN s)∧IsNum (cutD s)∧0<nuV (cutD s)∧zgp (qq (nuV (cutN s)) (nuV (cutD s)))=s then some (qq (nuV (cutN s)) (nuV (cutD s))) else none
end Go.Proofs.YtmhllppjcilllaaGreatDoor
end
end
end
section

end
section
open Go Go.RowKit Cs
end
section
section
open Go Go.RowKit Cs
namespace Go.Proofs.YtmhllppjcilllaaGreatDoor
theorem zhk {fn:Func} {R:Ending→World→Prop} {a:Act} {w:World} {p u:Tmp} (h:fn.results=#[.cell p 31,.tmp u]) {g:Nat} {t:TypeId} (V:Nat)
  (hp:a.tmps.getD p undef = .pointer (some ⟨g,0,none⟩)) (hrow:w.rowIs g t 1 fun _=>.string (za V)) (hdf:a.defers=[]) (hR:R (.returned (.tuple #[zN V,a.tmps.getD u undef])) w):bodyPost Tryz.prog fn R .ret a w:=by
 refine bodyPost_ret ?_ hdf hR;rw [results_cell_tmp h,hp];have hl:=run_loadVar_row (P:=Tryz.prog) w g t 31 _ (0,0) _ (jk hrow) Tryz.underlying31 rfl (by simpa using zd7);simp [asAddr,Result.andThen,hl]
end Go.Proofs.YtmhllppjcilllaaGreatDoor
end
end
section
set_option maxRecDepth 100000
set_option maxHeartbeats 400000
open Go Go.RowKit Cs
namespace Cs
theorem sub_word (x c y s c':Int) (hx:0≤x) (hx2:x<4294967296) (hc:0≤c) (hc2:c≤1) (hy:0≤y) (hy2:y<4294967296) (hs:0≤s) (hs2:s<4294967296) (hd:0≤c') (hd2:c'≤1)
  (E:c+(y+s)=x+4294967296*c'):((x-c)%18446744073709551616-y)%18446744073709551616%4294967296=s∧((x-c)%18446744073709551616-y)%18446744073709551616 / 9223372036854775808=c':=by
 have h1:((x-c)%18446744073709551616-y)%18446744073709551616=(s-4294967296*c')%18446744073709551616:=by
  rw [Int.emod_sub_emod];congr 1;omega
 rw [h1];have h2:c'=0∨c'=1:=by omega
 rcases h2 with rfl | rfl
 ·rw [Int.emod_eq_of_lt (by omega) (by omega)];omega
 ·have h3:(s-4294967296*1)%18446744073709551616=s-4294967296+18446744073709551616:=by
   rw [← Int.add_emod_right,Int.emod_eq_of_lt (by omega) (by omega)];omega
  rw [h3];omega
end Cs
namespace Go.Proofs.YtmhllppjcilllaaGreatDoor
theorem sub_ge (w:World) (a b:Nat) (ha:n8 a≤1000000) (hb:n8 b≤1000000) (hab:b≤a) :
  Calls Tryz.prog 110 #[zN a,zN b] w fun e w'=>e = .returned (.tuple #[zN (a-b),.bool true])∧Below w.heap.size w w':=by
 obtain ⟨s,hs⟩:∃ s,a-b=s:=⟨_,rfl⟩;have hsa:s+b=a:=by omega
 have hsn:nw s≤nw a:=zdZ (by omega);have hbn:nw b≤nw a:=zdZ (by omega);rw [hs];have HSA:=zb hsa;have hcm:¬ qv a b<0:=by unfold qv;split <;> (try split) <;> omega
 have hcp:=fun W=>zgF W a b (by omega) (by omega);obtain ⟨M,hM⟩:∃ M,qv a b=M:=⟨_,rfl⟩;simp only [hM] at hcp;rw [hM] at hcm;have HCP:=zb hcp;clear hcp hM hs hsa;go_enter Tryz.func110, Tryz.ntmps110;go_wp2_with (
  go_at_call 72;(with_reducible refine (HCP.out _).mono ?_);rintro e w0 ⟨rfl,hb0⟩;have q1:w0.cell? ⟨w.heap.size,0,none⟩=some (.string (za a)):=(hb0.cell (p:=⟨w.heap.size,0,none⟩) (by simp <;> omega)).trans (by go_simp);have q2:w0.cell? ⟨w.heap.size+1,0,none⟩=some (.string (za b)):=(hb0.cell (p:=⟨w.heap.size+1,0,none⟩) (by simp <;> omega)).trans (by go_simp);have hbox0:w0.rowIs (w.heap.size+1+1) 31 1 fun _=>.string ⟨#[]⟩:=zo (qF ((w.alloc _).alloc _) _ _ _ (by simp)) hb0;have hz0:=hb0.size)
 simp at hz0;have hbel0:Below w.heap.size w w0:=((((zx _ _).alloc (zu _) _).alloc (by simp) _).alloc (by simp;omega) _).trans (hb0.mono (by simp;omega));clear hb0;have k1:w0.drew.cell? ⟨w.heap.size,0,none⟩=some (.string (za a)):=q1;have k2:w0.drew.cell? ⟨w.heap.size+1,0,none⟩=some (.string (za b)):=q2;go_region_held3 (fun w'=>w'.cell? ⟨w.heap.size,0,none⟩=some (.string (za a))∧w'.cell? ⟨w.heap.size+1,0,none⟩=some (.string (za b)))
  (first | exact ⟨k1,k2⟩ | exact ⟨hk3,hk4⟩ | exact ⟨hk1,hk2⟩ | go_keep)
  (first
    | ((go_at_call 78;(with_reducible refine (pT _ a (by omega)).mono ?_);rintro e w1 ⟨g1,hg1,rfl,hr1,hb1⟩;simp at hg1
        have hk1:w1.cell? ⟨w.heap.size,0,none⟩=some (.string (za a)):=(hb1.cell (p:=⟨w.heap.size,0,none⟩) (by simp;omega)).trans k1;have hk2:w1.cell? ⟨w.heap.size+1,0,none⟩=some (.string (za b)):=(hb1.cell (p:=⟨w.heap.size+1,0,none⟩) (by simp;omega)).trans k2))
    | ((go_at_call 78;(with_reducible refine (pT _ b (by omega)).mono ?_);rintro e w2 ⟨g2,hg2,rfl,hr2,hb2⟩
        have hk3:w2.cell? ⟨w.heap.size,0,none⟩=some (.string (za a)):=(hb2.cell (p:=⟨w.heap.size,0,none⟩) (by have:=hb1.size;simp at this ⊢;omega)).trans hk1;have hk4:w2.cell? ⟨w.heap.size+1,0,none⟩=some (.string (za b)):=(hb2.cell (p:=⟨w.heap.size+1,0,none⟩) (by have:=hb1.size;simp at this ⊢;omega)).trans hk2)))
 have hz1:=hb1.size;simp at hz1;have hz2:=hb2.size;have hlt1:=hr1.lt;have hlt2:=hr2.lt;replace hr1:=zo hr1 hb2;have hbox:=zo (zo hbox0.drew hb1) hb2;have hbel:Below w.heap.size w w2:=((qV hbel0 1).trans (hb1.mono (by simp;omega))).trans (hb2.mono (by omega));have hne:g1≠g2:=by omega
 have HNE:=zb hne;clear hb1 hb2 hk1 hk2 hk3 hk4 q1 q2 k1 k2 hbox0 hbel0 hne;have hna:nw a≤1000000:=by unfold nw;omega
 go_wp2;go_loopw [8,22] (fun c t wr=>∃ k:Nat,k≤nw a∧t = .int .i64 k∧c = .int .u64 (cr s b k)∧wr.rowIs (w.heap.size+1+1) 31 1 (fun _=>.string ⟨#[]⟩) ∧
   wr.rowIs g1 124 (nw a) (fun i=>.int .u32 (if i<k then wd s i else wd a i))∧wr.rowIs g2 124 (nw b) (fun i=>.int .u32 (wd b i))∧Below w.heap.size w wr)
  (fun _ t _=>nw a-(intOf t).toNat)
 case atStart=>exact ⟨0,by omega,rfl,by rw [zgC];rfl,hbox,hr1.congr fun i _=>by simp,hr2,hbel⟩
 case round =>
  clear hr1 hr2 hbox hbel;obtain ⟨k,hk,rfl,rfl,hbox,hr1,hr2,hbel⟩:=hrel;by_cases hlt:k<nw a
  ·have hc1:=hr1.cell hlt;rw [if_neg (Nat.lt_irrefl k)] at hc1;have hf1:=hr1.frozen k;have hcr:=jd s b k;have hcr2:=jd s b (k+1);have hwa:=qz a k;have hwb:=qz b k;have hws:=qz s k;have e1:=zdx s b k;have e2:=zgD s b k;rw [HSA.out] at e1;have hE:(cr s b k:Int)+((wd b k:Int)+(wd s k:Int))=(wd a k:Int)+4294967296*(cr s b (k+1):Int):=by omega
   have hw:=sub_word (wd a k) (cr s b k) (wd b k) (wd s k) (cr s b (k+1)) (by omega) (by omega) (by omega) (by omega) (by omega) (by omega) (by omega) (by omega) (by omega) (by omega) hE;have hlow:k<nw b∨wd b k=0:=by
    rcases Nat.lt_or_ge k (nw b) with h | h
    ·exact .inl h
    ·exact .inr (jh b k h)
   have HW:=zb hw;have hrel:∀ wq:World,wq=wr.setCell ⟨g1,k,none⟩ (.int .u32 (wd s k:Int))→wq.rowIs (w.heap.size+1+1) 31 1 (fun _=>.string ⟨#[]⟩)∧wq.rowIs g1 124 (nw a) (fun i=>.int .u32 (if i<k+1 then wd s i else wd a i))∧wq.rowIs g2 124 (nw b) (fun i=>.int .u32 (wd b i))∧Below w.heap.size w wq:=by
    rintro wq rfl;refine ⟨hbox.setOther (by simp;omega) _,(hr1.set k _).congr fun i hi=>?_,hr2.setOther (by simp;exact fun h=>HNE.out h.symm) _,hbel.setCell (by simp;omega) _⟩;split
    ·subst i;rw [if_pos (by omega)]
    ·by_cases h:i<k
     ·rw [if_pos h,if_pos (by omega)]
     ·rw [if_neg h,if_neg (by omega)]
   have HREL:=zb hrel;clear hrel e1 e2 hE hw;by_cases hkb:k<nw b
   ·have hc2:=hr2.cell hkb;have hkb2:(k:Int)<(nw b:Int):=by omega
    clear hlow;go_wp2;simp only [IntKind.wrap_u64];rw [HW.out.1,HW.out.2];go_roundw
    case rel=>exact ⟨k+1,by omega,by go_num,rfl,HREL.out _ rfl⟩
    case measure=>simp [intOf];omega
   ·have hb0:wd b k=0:=hlow.resolve_left hkb;have hw:=HW.out;rw [hb0] at hw;simp only [Int.natCast_zero,Int.cast_ofNat_Int,Int.sub_zero,Int.emod_emod] at hw;have HW2:=zb hw;have hkb2:¬ (k:Int)<(nw b:Int):=by omega
    clear hlow hb0 hw;go_wp2;simp only [IntKind.wrap_u64];rw [HW2.out.1,HW2.out.2];go_roundw
    case rel=>exact ⟨k+1,by omega,by go_num,rfl,HREL.out _ rfl⟩
    case measure=>simp [intOf];omega
  ·obtain rfl:k=nw a:=by omega
   have hr4:=hr1.congr (g:=fun i=>.int .u32 (wd s i)) fun i hi=>by rw [if_pos hi]
   go_wp2_with fail
   refine (zbX _ _ (nw a) (nw a) s (by omega) (fun i hi=>hr4.cell hi) hr4.lt hsn).mono ?_;rintro e w5 ⟨rfl,hb5⟩;have hbx:=zo hbox hb5;have hc:=zV hbx;have hf:=hbx.frozen 0;go_wp2;exact zhk rfl s rfl (qZ hbx _) rfl ⟨rfl,(hbel.trans (hb5.mono hbel.size)).setCell (by simp <;> omega) _⟩
end Go.Proofs.YtmhllppjcilllaaGreatDoor
end
section

end
section
section
open Go Go.RowKit Cs
namespace Cs
def zr (L:List Pr) (v:Nat):List Pr:=L.set v (0,0)
def totN (N:Nt) (n:Nat) (lo hi:List Pr):Nat:=((RP n lo hi).sum N).1
structure Ch where
 r:Nat
 lo:List Pr
 hi:List Pr
 a:Nat
def Ch.step (N:Nt) (n:Nat) (s:Ch) (v:Nat):Ch :=
 if totN N n s.lo (zr s.hi v)≤s.r then ⟨s.r-totN N n s.lo (zr s.hi v),zr s.lo v,s.hi,s.a ||| 2^(v-1)⟩ else ⟨s.r,s.lo,zr s.hi v,s.a⟩
def Ch.run (N:Nt) (n:Nat) (s:Ch):Nat→Ch
 | 0=>s
 | m+1=>(Ch.run N n s m).step N n (m+1)
end Cs
end
section
open Go Go.RowKit Cs
namespace Cs
def Wh (L:List Pr):Prop:=∀ k,(L.getD k (0,0)).2≤1
end Cs
end
end
section
section
open Go Go.RowKit Cs
namespace Cs
theorem ownsRows {w:World} {n:Nat} {base:Nat} {e:TypeId} {size:Nat} {v:Value} {xs:List Value} (h:w.ownsRow base e size v n xs) (hn:0<n) :
  ∃ g cap f,v = .slice (some ⟨g,0,none⟩) n cap∧base≤g∧g<w.heap.size∧n≤cap∧w.rowIs g e (cap*size) f∧∀ i,i<n*size→xs[i]?=some (f i):=by
 obtain ⟨h1,h2⟩:=h;rcases h2 with ⟨_,h0⟩ | ⟨g,cap,cur,rfl,hb,hg,hc,_,hs,ht⟩
 ·omega
 ·have hlt:g<w.heap.size:=by
   rcases Nat.lt_or_ge g w.heap.size with h' | h'
   ·exact h'
   ·rw [Array.getElem?_eq_none h'] at hg;cases hg
  refine ⟨g,cap,fun i=>cur.getD i undef,rfl,hb,hlt,hc,⟨cur,hg,hs,fun i hi=>?_⟩,fun i hi=>?_⟩
  ·show cur[i]?=some (cur.getD i undef);rw [Array.getD_eq_getD_getElem?,Array.getElem?_eq_getElem (by omega)];rfl
  ·have hle:n*size≤cap*size:=Nat.mul_le_mul_right _ hc;rw [← ht,List.getElem?_take,if_pos hi];show cur.toList[i]?=some (cur.getD i undef);rw [Array.getD_eq_getD_getElem?];rw [Array.getElem?_toList,Array.getElem?_eq_getElem (by omega)];rfl
end Cs
end
section
open Go Go.RowKit Cs
namespace Cs
def PrR (w:World) (g:Nat) (t:TypeId) (m n:Nat) (L:List Pr):Prop:=∃ F,w.rowIs g t m F∧∀ i,i<n*2→F i=zD L i
theorem PrR.set {w:World} {g m n:Nat} {t:TypeId} {L:List Pr} (h:PrR w g t m n L) (p:Pr) (k:Nat) (hk:k<n) (hL:L.length=n) :
  PrR ((w.setCell ⟨g,k*2,none⟩ (.string (za p.1))).setCell ⟨g,k*2+1,none⟩ (.string (za p.2))) g t m n (L.set k p):=by
 obtain ⟨F,h1,h2⟩:=h;refine ⟨_,(h1.set _ _).set _ _,fun i hi=>?_⟩;have e:∀ j,(L.set k p).getD j (0,0)=if j=k then p else L.getD j (0,0):=fun j=>by
  rw [List.getD_eq_getElem?_getD,List.getD_eq_getElem?_getD,List.getElem?_set];split
  ·rename_i h1;rw [if_pos h1.symm];subst h1;first | rfl | (rw [if_pos (by omega)];rfl)
  ·rename_i h1;rw [if_neg (fun h=>h1 h.symm)]
 by_cases h3:i=k*2+1
 ·subst h3;rw [if_pos rfl,oS,e,if_pos rfl]
 ·rw [if_neg h3];by_cases h4:i=k*2
  ·subst h4;rw [if_pos rfl,oR,e,if_pos rfl]
  ·rw [if_neg h4,h2 i hi];have h5:¬ i / 2=k:=by omega
   unfold zD;simp only [e,h5,if_false]
end Cs
end
end
section
open Go Go.RowKit Cs
namespace Go.Proofs.YtmhllppjcilllaaGreatDoor
theorem ziL:(Tryz.prog.info? 39).map (·.size)=some 2:=by kernel_rfl
end Go.Proofs.YtmhllppjcilllaaGreatDoor
end
section
open Go Go.RowKit Cs
namespace Cs
theorem prs_snoc (L:List Pr) (k:Nat):(List.range ((k+1)*2)).map (zD L)=(List.range (k*2)).map (zD L)++[.string (za (L.getD k (0,0)).1),.string (za (L.getD k (0,0)).2)]:=by
 rw [show (k+1)*2=k*2+1+1 by omega,List.range_succ,List.range_succ];simp [oR,oS]
theorem gd {w:World} {g:Nat} {t:TypeId} {x y:Value} (h:w.rowIs g t 2 (zy #[x,y])) (u:Value):(w.setCell ⟨g,0,none⟩ u).rowIs g t 2 (zy #[u,y]) :=
 (h.set 0 u).congr fun i hi=>by
  have:i=0∨i=1:=by omega
  rcases this with rfl | rfl <;> rfl
theorem j9 {w:World} {g:Nat} {t:TypeId} {x y:Value} (h:w.rowIs g t 2 (zy #[x,y])) (u:Value):(w.setCell ⟨g,1,none⟩ u).rowIs g t 2 (zy #[x,u]) :=
 (h.set 1 u).congr fun i hi=>by
  have:i=0∨i=1:=by omega
  rcases this with rfl | rfl <;> rfl
theorem gH {w:World} {base n c:Nat} {e:TypeId} {a:Option Addr} {f:Nat→Value} (h:w.ownsRow base e 2 (.slice a n c) n ((List.range (n*2)).map f)):n≤c∧Rd w w.heap.size a (n*2) f:=by
 rcases Nat.eq_zero_or_pos n with h0 | h0
 ·exact ⟨by omega,fun h=>absurd h (by omega)⟩
 ·obtain ⟨g,cap,F,e1,hg,hlt,hc,hr,hf⟩:=ownsRows h h0;injection e1 with e2 e3 e4;subst e2;subst e4;refine ⟨hc,fun _=>⟨g,0,rfl,hlt,fun i hi=>?_⟩⟩;have:=hf i hi;have e5:((List.range (n*2)).map f)[i]?=some (f i):=by simp [hi]
  rw [e5] at this;rw [Nat.zero_add,hr.cell (i:=i) (by omega)];exact this.symm
end Cs
namespace Go.Proofs.YtmhllppjcilllaaGreatDoor
def okT (s:ByteArray):Prop:=(∃ q,rdO s=some q)∧s.size≤9
end Go.Proofs.YtmhllppjcilllaaGreatDoor
end
