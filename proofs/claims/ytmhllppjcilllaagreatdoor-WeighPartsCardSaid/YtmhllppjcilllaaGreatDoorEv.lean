import Derived.Test.YtmhllppjcilllaaGreatDoorQ2
import Derived.Test.YtmhllppjcilllaaGreatDoorN1
import Derived.Test.YtmhllppjcilllaaGreatDoorV1
import Derived.Test.YtmhllppjcilllaaGreatDoorMg
import Derived.Test.YtmhllppjcilllaaGreatDoorN4
set_option linter.unusedSimpArgs false
set_option linter.unusedVariables false
section
open Go Go.RowKit Cs
namespace Cs
def pf1 (m x:Nat):Nat:=(x / 2 &&& m)+(x &&& m)
def pf2 (m x:Nat):Nat:=(x / 4 &&& m)+(x &&& m)
def pf3 (m x:Nat):Nat:=(x / 16+x) &&& m
def g1 (b:Nat):Nat:=pf1 85 b
def g2 (b:Nat):Nat:=pf2 51 b
def g3 (b:Nat):Nat:=pf3 15 b
def pb:Nat→Nat→Nat
 | 0,_=>0
 | k+1,x=>pcn 8 (x%256)+256*pb k (x / 256)
end Cs
end
section
set_option maxRecDepth 100000
set_option maxHeartbeats 1000000
open Go Go.RowKit Cs
namespace Cs
theorem oe (s:Nat) (v:Int) (h1:1≤v) (h2:v≤128):jI s v=s.testBit (v.toNat-1):=by unfold jI;rw [decide_eq_true ⟨h1,h2⟩,Bool.true_and]
theorem zfW (x i:Nat):(((x &&& 2^i:Nat):Int) != 0)=x.testBit i:=by
 rw [nat_bit];have e:=Nat.testBit_eq_decide_div_mod_eq (x:=x) (i:=i);rw [e];have hp:=Nat.two_pow_pos i;rcases Nat.mod_two_eq_zero_or_one (x / 2^i) with h | h
 ·rw [h];simp
 ·have h2:(((2^i:Nat):Int) != 0)=true:=bne_iff_ne.2 (by omega);rw [h,Nat.one_mul,h2];simp
end Cs
namespace Go.Proofs.YtmhllppjcilllaaGreatDoor
open Go.Shelf
theorem has_any (w:World) (s:Nat) (v:Int):Calls Tryz.prog 138 #[qk s,.int .i64 v] w fun e w'=>e = .returned (.bool (jI s v))∧Below w.heap.size w w':=by
 have hbl:Below w.heap.size w (w.alloc (.cells #[.int .u64 (lo s:Int),.int .u64 (hi s:Int)] 96)):=(zy _ _).alloc (zv _) _;by_cases hv:1≤v∧v≤128
 ·obtain ⟨hv1,hv2⟩:=hv;have hh:=oe s v hv1 hv2;by_cases h64:v≤64
  ·have h1:=u64_and_nat (lo s) (lo (2^(v.toNat-1))) (jQ _) (jQ _);have h2:lo (2^(v.toNat-1))=2^(v.toNat-1):=by rw [zh5,if_pos (by omega)]
   have h3:=zfW (lo s) (v.toNat-1);rw [jT,decide_eq_true (by omega),Bool.true_and,← hh,← h2] at h3;have H3:=zc h3;clear h2 h3 hh;go_enter Tryz.func138, Tryz.ntmps138;go_wp2_with (go_at_call 166;refine (zje _ v hv1 h64).mono ?_;rintro e w' ⟨rfl,rfl⟩)
   go_ret;exact ⟨congrArg (fun b=>Ending.returned (.bool b)) H3.out,hbl⟩
  ·have h1:=u64_and_nat (hi s) (hi (2^(v.toNat-1))) (jP _) (jP _);have h2:hi (2^(v.toNat-1))=2^(v.toNat-1-64):=by rw [zhB _ (by omega),if_neg (by omega)]
   have h3:=zfW (hi s) (v.toNat-1-64);rw [jS,decide_eq_true (by omega),Bool.true_and,show v.toNat-1-64+64=v.toNat-1 by omega,← hh,← h2] at h3;have H3:=zc h3;clear h2 h3 hh;go_enter Tryz.func138, Tryz.ntmps138;go_wp2_with (go_at_call 166;refine (zjf _ v (by omega) hv2).mono ?_;rintro e w' ⟨rfl,rfl⟩)
   go_ret;exact ⟨congrArg (fun b=>Ending.returned (.bool b)) H3.out,hbl⟩
 ·have hh:jI s v=false:=by unfold jI;rw [decide_eq_false hv];rfl
  rw [hh];clear hh;go_enter Tryz.func138, Tryz.ntmps138;go_wp2_with (go_at_call 166;refine (zjd _ v (by omega)).mono ?_;rintro e w' ⟨rfl,rfl⟩)
  go_ret;exact ⟨rfl,hbl⟩
theorem x5 (w:World) (s:Nat) (l:Int) (h1 : -9223372036854775808≤l) (h2:l≤9223372036854775807):Calls Tryz.prog 93 #[qk s,.int .i64 l] w fun e w'=>e = .returned (.bool (hld s l))∧Below w.heap.size w w':=by
 have hva:=fun W=>zbD W l h1 h2;have hlv:=zeX l;have hhs:=fun W=>has_any W s (zH l);have hv:hld s l=(decide (zH l≠0)&&(s.testBit ((zH l).toNat-1)==decide (0<l))):=rfl;have hb:zH l≠0→jI s (zH l)=s.testBit ((zH l).toNat-1):=fun h=>oe s _ (by omega) (by omega);obtain ⟨H,hH⟩:∃ b,hld s l=b:=⟨_,rfl⟩;obtain ⟨v,hv'⟩:∃ v,zH l=v:=⟨_,rfl⟩;rw [hH] at hv ⊢;rw [hv'] at hv hlv hb;simp only [hv'] at hva hhs;have HVA:=zc hva;have hbx:=p8 w (.int .u64 (lo s:Int)) (.int .u64 (hi s:Int)) 96 _ rfl;have hbl:Below w.heap.size w (w.alloc (.cells #[.int .u64 (lo s:Int),.int .u64 (hi s:Int)] 96)):=(zy _ _).alloc (zv _) _;clear hva hH hv';by_cases h0:v=0
 ·subst h0;have HV:Hid (H=false):=zc (by rw [hv];rfl);clear hv hhs hb;go_enter Tryz.func93, Tryz.ntmps93;go_wp2_with fail
  go_quiet (first | (go_at_call 117;exact Calls.quiet_of_same ((HVA.out _).mono fun e u h=>⟨h.1,h.2.symm⟩)))
  go_wp2;go_ret;exact ⟨by rw [HV.out];rfl,qY hbl _⟩
 ·obtain ⟨T,hT⟩:∃ b,s.testBit (v.toNat-1)=b:=⟨_,rfl⟩;rw [hT] at hv hb;simp only [hb h0] at hhs;have HHS:=zc hhs;have HV:Hid (H=(T==decide (0<l))):=zc (by rw [hv,decide_eq_true h0,Bool.true_and]);have hv0:(v != 0)=true:=bne_iff_ne.2 h0;have hv1:(v==0)=false:=beq_eq_false_iff_ne.2 h0;clear hv hT hhs hb;go_enter Tryz.func93, Tryz.ntmps93;go_wp2_with fail
  replace hbl:=qY hbl 1
  change Below _ _ (World.drew _) at hbl
  replace hbx:=hbx.drew;have c1:=hbx.cell (i:=0) (by omega);have c2:=hbx.cell (i:=1) (by omega);rw [if_pos rfl] at c1;rw [if_neg (by omega)] at c2;go_region_held3 (fun w'=>w'.cell? ⟨w.heap.size,0,none⟩=some (.int .u64 (lo s:Int))∧w'.cell? ⟨w.heap.size,1,none⟩=some (.int .u64 (hi s:Int))) (first | exact ⟨c1,c2⟩ | go_keep)
   (first
     | (go_simp
        go_at_call 117;(with_reducible refine (HVA.out _).mono ?_);rintro e w9 ⟨rfl,rfl⟩)
     | (go_simp
        go_at_call 138;(with_reducible refine (HHS.out _).mono ?_);rintro e w9 ⟨rfl,hb9⟩;replace hbx:=zh hbx hb9;replace hbl:=zx hbl hb9 hbl.size;have c1:w9.cell? ⟨w.heap.size,0,none⟩=some (.int .u64 (lo s:Int)):=hbx.cell (i:=0) (by omega);have c2:w9.cell? ⟨w.heap.size,1,none⟩=some (.int .u64 (hi s:Int)):=hbx.cell (i:=1) (by omega)))
  all_goals
   try go_wp2
   go_ret;exact ⟨by rw [HV.out];rfl,hbl⟩
end Go.Proofs.YtmhllppjcilllaaGreatDoor
end
section
set_option maxRecDepth 100000
set_option maxHeartbeats 4000000
open Go Go.RowKit Cs
namespace Cs
theorem zdZ (L:List Bool) (b:Bool) (i:Nat):(L++[b]).getD i false=if i=L.length then b else L.getD i false:=by
 rw [List.getD_eq_getElem?_getD,List.getD_eq_getElem?_getD,List.getElem?_append];by_cases h:i<L.length
 ·rw [if_pos h,if_neg (by omega)]
 ·rw [if_neg h];by_cases h2:i=L.length
  ·rw [if_pos h2,h2,Nat.sub_self];rfl
  ·rw [if_neg h2,List.getElem?_eq_none (by simp;omega),List.getElem?_eq_none (by omega)]
end Cs
namespace Go.Proofs.YtmhllppjcilllaaGreatDoor
theorem xY:(Tryz.prog.info? 4).map (fun i=>(i.zero,i.size,i.bytes))=some (some (.bool false),1,1):=by kernel_rfl
theorem mk_bool (n:Nat) (h:n≤1000000000) (u:World):(Instr.makeSlice 149 (.int .i64 (n:Int)) (.int .i64 (n:Int))).run Tryz.prog u =
  .ok (.slice (some ⟨u.heap.size,0,none⟩) n n) (u.alloc (.cells (madeCells #[.bool false] n) 4)):=by
 obtain ⟨i0,hi,hz0,hz1,hz2⟩:=info_parts xY;exact run_make_row 149 4 i0 (.bool false) Tryz.underlying149 hi hz0 hz1 rfl .i64 .i64 n (by rw [hz2];omega) (by omega) u
def ndF (x:Nd) (A:Option Addr) (c:Nat) (i:Nat):Value:=if i=0 then .int .i64 x.kind else if i=1 then .int .i64 x.lit else .slice A x.ins.length c
theorem ndNew (w:World) (x:Nd) (A:Option Addr) (c:Nat) (t:TypeId) (g:Nat) (hg:w.heap.size=g):(w.alloc (.cells #[.int .i64 x.kind,.int .i64 x.lit,.slice A x.ins.length c] t)).rowIs g t 3 (ndF x A c):=by
 subst hg;exact World.rowIs_alloc w _ t (ndF x A c) fun i hi=>by
  have:i=0∨i=1∨i=2:=by simp at hi;omega
  rcases this with rfl | rfl | rfl <;> rfl
theorem zgw {w:World} {g:Nat} {t:TypeId} {x:Nd} {A:Option Addr} {c:Nat} (h:w.rowIs g t 3 (ndF x A c)) :
  w.cell? ⟨g,0,none⟩=some (.int .i64 x.kind)∧w.cell? ⟨g,1,none⟩=some (.int .i64 x.lit)∧w.cell? ⟨g,2,none⟩=some (.slice A x.ins.length c):=⟨h.cell (i:=0) (by omega),h.cell (i:=1) (by omega),h.cell (i:=2) (by omega)⟩
section
variable {w:World} {g n:Nat} {t:TypeId} {L:List Bool}
theorem pG (w:World) (n:Nat) (t:TypeId) (g:Nat) (hg:w.heap.size=g):(w.alloc (.cells (madeCells #[.bool false] n) t)).rowIs g t n (jO []) :=
 oX w _ n t g hg fun i _=>by unfold jO;simp
theorem pF (h:w.rowIs g t n (jO L)) (j:Nat) (b:Bool) (hj:j=L.length):(w.setCell ⟨g,j,none⟩ (.bool b)).rowIs g t n (jO (L++[b])) :=
 (h.set j _).congr fun i hi=>by
  unfold jO;by_cases h1:i=j
  ·rw [if_pos h1,zdZ,if_pos (by omega)]
  ·rw [if_neg h1,zdZ,if_neg (by omega)]
theorem pE (h:w.rowIs g t n (jO L)):w.rowIs g t n (jO (L++[false])) :=
 h.congr fun i hi=>by
  unfold jO;rw [zdZ];split
  ·rename_i h1;rw [List.getD_eq_getElem?_getD,List.getElem?_eq_none (by omega)];rfl
  ·rfl
end
theorem pg (w:World) (b Q n x:Nat) (L:List Bool) (t:TypeId) (hb:w.cell? ⟨b,0,none⟩=some (.slice (some ⟨Q,0,none⟩) n n)) (hr:w.rowIs Q t n (jO L)) (hx:x<n) :
  Calls Tryz.prog 95 #[.int .i64 (x:Int),.pointer (some ⟨b,0,none⟩)] w fun e w'=>e = .returned (.bool (!L.getD x false))∧w=w':=by
 have hc:=hr.cell hx;unfold jO at hc;obtain ⟨y,hy⟩:∃ y,L.getD x false=y:=⟨_,rfl⟩;rw [hy] at hc ⊢;have i0:(0:Int)≤(x:Int):=by omega
 have i1:(x:Int)<(n:Int):=by omega
 clear hr hy;go_enter Tryz.func95, Tryz.ntmps95;go_wp2;go_ret;exact ⟨rfl,rfl⟩
theorem pf (w:World) (b Q n x:Nat) (L:List Bool) (t:TypeId) (hb:w.cell? ⟨b,0,none⟩=some (.slice (some ⟨Q,0,none⟩) n n)) (hr:w.rowIs Q t n (jO L)) (hx:x<n) :
  Calls Tryz.prog 96 #[.int .i64 (x:Int),.pointer (some ⟨b,0,none⟩)] w fun e w'=>e = .returned (.bool (L.getD x false))∧w=w':=by
 have hc:=hr.cell hx;unfold jO at hc;obtain ⟨y,hy⟩:∃ y,L.getD x false=y:=⟨_,rfl⟩;rw [hy] at hc ⊢;have i0:(0:Int)≤(x:Int):=by omega
 have i1:(x:Int)<(n:Int):=by omega
 clear hr hy;go_enter Tryz.func96, Tryz.ntmps96;go_wp2;go_ret;exact ⟨rfl,rfl⟩
structure EvR (w:World) (n:Int) (l:List Nd) (A:Option Addr) (c s Q:Nat) (L:List Bool) (wr:World):Prop where
 net:wr.rowIs w.heap.size 24 2 (ntF ⟨n,l⟩ A c)
 set:wr.rowIs (w.heap.size+1) 96 2 (fun i=>if i=0 then .int .u64 (lo s:Int) else .int .u64 (hi s:Int))
 row:wr.rowIs Q 4 l.length (jO L)
 box:wr.rowIs (Q+1) 149 1 (fun _=>.slice (some ⟨Q,0,none⟩) l.length l.length)
 bl:Below w.heap.size w wr
 lt:w.heap.size+1<Q
section
variable {w:World} {n:Int} {l:List Nd} {A:Option Addr} {c s Q:Nat} {L:List Bool} {wr w':World}
theorem EvR.below (h:EvR w n l A c s Q L wr) (hb:Below wr.heap.size wr w'):EvR w n l A c s Q L w':=⟨zh h.net hb,zh h.set hb,zh h.row hb,zh h.box hb,zx h.bl hb h.bl.size,h.lt⟩
theorem EvR.drew (h:EvR w n l A c s Q L wr):EvR w n l A c s Q L wr.drew:=h.below (qY (zy _ _) 1)
theorem EvR.next (h:EvR w n l A c s Q L wr) (b:Bool) (j:Nat) (hj:j=L.length):EvR w n l A c s Q (L++[b]) (wr.setCell ⟨Q,j,none⟩ (.bool b)):=by
 have:=h.lt;exact ⟨h.net.setOther (by simp;omega) _,h.set.setOther (by simp;omega) _,pF h.row j b hj,h.box.setOther (by simp) _,h.bl.setCell (by simp;omega) _,h.lt⟩
theorem EvR.same (h:EvR w n l A c s Q L wr):EvR w n l A c s Q (L++[false]) wr:=⟨h.net,h.set,pE h.row,h.box,h.bl,h.lt⟩
end
theorem all_anyN {α:Type} (xs:List α) (p:α→Bool):xs.all p = !xs.any (fun j=>!p j):=by
 induction xs with
 | nil=>rfl
 | cons a xs ih=>simp only [List.all_cons,List.any_cons,ih];cases p a <;> rfl
theorem eval_ok (w:World) (N:Nt) (A:Option Addr) (c s:Nat) (hN:NtAt w w.heap.size A N.l) (hv:zE N=true) :
  Calls Tryz.prog 49 #[qB N A c,qk s] w fun e w'=>e = .returned (.bool (qS N s))∧Below w.heap.size w w':=by
 obtain ⟨hn0,hn1,hl0,hl1⟩:=qR hv;have hck:=fun W h=>zaC W N A c (by omega) h;rw [show q8 N=0 by unfold q8;rw [hv];rfl] at hck;have hfm:=fun k hk=>qM hv k hk;have hev:(qz s N.l).getD (N.l.length-1) false=qS N s:=rfl;obtain ⟨E,hE⟩:∃ b,qS N s=b:=⟨_,rfl⟩;rw [hE] at hev ⊢;obtain ⟨n,l⟩:=N;simp only at hN hn0 hn1 hl0 hl1 hfm hev;have HCK:=zc hck;have HF:=zc hfm;have HEV:=zc hev;clear hck hfm hev hE hv;have hmk:=mk_bool l.length (by omega);have hbox:=(pN w ⟨n,l⟩ A c 24 _ rfl).alloc (.cells #[.int .u64 (lo s:Int),.int .u64 (hi s:Int)] 96);have hsb:=p8 (w.alloc (.cells #[.int .i64 n,.slice A l.length c] 24)) (.int .u64 (lo s:Int)) (.int .u64 (hi s:Int)) 96 (w.heap.size+1) (by simp);have hbl:Below w.heap.size w ((w.alloc (.cells #[.int .i64 n,.slice A l.length c] 24)).alloc (.cells #[.int .u64 (lo s:Int),.int .u64 (hi s:Int)] 96)):=((zy _ _).alloc (zv _) _).alloc (by simp) _;go_enter Tryz.func49, Tryz.ntmps49;go_wp2_with fail
 refine (HCK.out _ ((hN.below hbl).more hbl.size)).mono ?_;rintro e w5 ⟨rfl,hb5⟩;replace hbox:=zh hbox hb5;replace hsb:=zh hsb hb5;replace hbl:=zx hbl hb5 hbl.size;have hq:=hsb.lt;have hq2:=hbox.lt;obtain ⟨hc1,hc2⟩:=yB hbox;have hE0:EvR w n l A c s w5.heap.size [] ((w5.alloc (.cells (madeCells #[.bool false] l.length) 4)).alloc (.cells #[.slice (some ⟨w5.heap.size,0,none⟩) l.length l.length] 149)) :=
  ⟨(hbox.alloc _).alloc _,(hsb.alloc _).alloc _,(pG w5 l.length 4 _ rfl).alloc _,qC _ _ _ _ (by simp),(hbl.alloc hbl.size _).alloc (by simp;have:=hbl.size;omega) _,hq⟩
 have HE0:=zc hE0;clear hbox hsb hbl hE0 hb5 HCK;go_wp2;go_loopw [18] (fun t wr=>∃ k:Nat,k≤l.length∧t = .int .i64 k∧EvR w n l A c s w5.heap.size (qz s (l.take k)) wr) (fun t _=>l.length-(intOf t).toNat)
 case atStart=>exact ⟨0,by omega,rfl,HE0.out⟩
 case round =>
  clear HE0 hc1 hc2 hmk;obtain ⟨k,hk,rfl,hE⟩:=hrel;obtain ⟨Q,hQ⟩:∃ Q,w5.heap.size=Q:=⟨_,rfl⟩;simp only [hQ] at hE ⊢;by_cases hlt:k<l.length
  ·obtain ⟨b,o,rfl,hbB,hcs⟩:=hN (by omega);have hnd:=hcs k hlt;clear hcs;have ht:=jY (jm s) l k hlt;have hfk:=HF.out k hlt;obtain ⟨x,hx⟩:∃ x,l[k]=x:=⟨_,rfl⟩;rw [hx] at hnd ht hfk;have hks:=zej hfk;have hmem:=o0 hfk;have hnil:x.kind≠3→x.kind≠4→x.ins=[]:=fun h3 h4=>by
    rcases zaV hfk with ⟨_,h⟩ | h | h
    ·exact List.length_eq_zero_iff.1 h
    ·exact absurd h h3
    ·exact absurd h h4
   have HMEM:=zc hmem;have HNIL:=zc hnil;have HT:=zc ht;clear hmem hnil ht hx hfk;obtain ⟨hk1,hk2,⟨A',c',hk3,hrd⟩,hr1,hr2,hr3,hr4⟩:=hnd;replace hk1:=zF hE.bl hbB hk1;replace hk2:=zF hE.bl hbB hk2;replace hk3:=zF hE.bl hbB hk3;have HRD:=zc ((hrd.below hE.bl).more hE.bl.size);clear hrd;obtain ⟨L,hL⟩:∃ L,qz s (l.take k)=L:=⟨_,rfl⟩;have hLl:L.length=k:=by rw [← hL];exact yK _ _ _ (by omega)
   rw [hL] at hE
   change Hid (qz s (l.take (k+1))=qz s (l.take k)++[jm s (qz s (l.take k)) x]) at HT
   rw [hL] at HT;have HLL:=zc hLl;clear hL hLl;obtain ⟨hl1',hl2'⟩:=hr2;have hi0:(0:Int)≤(k:Int):=by omega
   have hi1:(k:Int)<(l.length:Int):=by omega
   have hal:Below wr.heap.size wr (wr.alloc (.cells #[.int .i64 x.kind,.int .i64 x.lit,.slice A' x.ins.length c'] 66)):=(zy _ _).alloc (zv _) _;have hE1:=hE.below hal;have hnr:=ndNew wr x A' c' 66 _ rfl;have hlaid:∀ (W:World) (a1:Int),W=wr.alloc (.cells #[.int .i64 a1,.int .i64 x.lit,.slice A' x.ins.length c'] 66)→a1=x.kind →
     EvR w n l (some ⟨b,o,none⟩) c s Q L W∧W.rowIs wr.heap.size 66 3 (ndF x A' c'):=fun W a1 hW e1=>by
    subst hW;subst e1;exact ⟨hE1,hnr⟩
   have HLAID:=zc hlaid;have hc18:=zQ hE.box;have hc19:=hE.row.cell (i:=k) (by omega);have hc20:=hE.row.frozen k;have hQr:=hE.row.lt;have hQb:=hE.box.lt;have HE:=zc hE;clear hlaid hnr hE1 hal hE;obtain ⟨kd,hkd⟩:∃ kd,kd=x.kind:=⟨_,rfl⟩;rw [← hkd] at hks hk1;have HKD:=zc hkd;have hstep:∀ kd,x.kind=kd→jm s L x=if kd=3 then x.ins.all (fun j=>L.getD j.toNat false) else if kd=4 then x.ins.any (fun j=>L.getD j.toNat false) else qN s x:=fun kd h=>by
    show x.ins.foldl (yW L x) (qN s x)=_;by_cases h3:kd=3
    ·rw [if_pos h3,zg8 x (by omega),show qN s x=true by unfold qN;rw [h,h3];rfl,Bool.true_and]
    ·rw [if_neg h3];by_cases h4:kd=4
     ·rw [if_pos h4,zg7 x (by omega),show qN s x=false by unfold qN;rw [h,h4];rfl,Bool.false_or]
     ·rw [if_neg h4,HNIL.out (by omega) (by omega)];rfl
   have hst:=hstep kd hkd.symm;have hes:qN s x=(decide (kd=1)||decide (kd=3)||(decide (kd=2)&&hld s x.lit)):=by unfold qN;rw [hkd]
   rw [hes] at hst;have HST:=zc hst;clear hstep hst hes hkd hr1;rcases hks with rfl | rfl | rfl | rfl | rfl
   ·go_wp2;have HX:=zc (HLAID.out _ _ rfl HKD.out).1.same;have hst:jm s L x=false:=by rw [HST.out];simp
    have hnx:=HT.out;rw [hst] at hnx;have HNX:=zc hnx;clear hnx;go_roundw
    case rel=>exact ⟨k+1,by omega,by go_num,by rw [HNX.out];exact HX.out⟩
    case measure=>simp [intOf];omega
   ·go_wp2;have hx:=(HLAID.out _ _ rfl HKD.out).1.next true k HLL.out.symm
    rw [World.setCell_alloc_past _ _ _ _ hQr] at hx;have HX:=zc hx;have hst:jm s L x=true:=by rw [HST.out];simp
    have hnx:=HT.out;rw [hst] at hnx;have HNX:=zc hnx;clear hnx;go_roundw
    case rel=>exact ⟨k+1,by omega,by go_num,by rw [HNX.out];exact HX.out⟩
    case measure=>simp [intOf];omega
   ·go_wp2_with fail
    obtain ⟨q1,q2⟩:=HLAID.out _ _ rfl HKD.out;replace q1:=q1.drew;replace q2:=q2.drew;obtain ⟨d1,d2,d3⟩:=zgw q2;have e1:=zQ q1.box;have e2:=q1.set.cell (i:=0) (by omega);have e3:=q1.set.cell (i:=1) (by omega);rw [if_pos rfl] at e2;rw [if_neg (by omega)] at e3;have e4:=q1.row.cell (i:=k) (by omega);have e5:=q1.row.frozen k;have hho:=fun W=>x5 W s x.lit hl1' hl2';obtain ⟨H,hH⟩:∃ b,hld s x.lit=b:=⟨_,rfl⟩;rw [hH] at HST;simp only [hH] at hho;have HHO:=zc hho;have hst:jm s L x=H:=by rw [HST.out];simp
    have hnx:=HT.out;rw [hst] at hnx;have hlt5:=q1.lt;have HN1:Hid (Q≠Q+1):=zc (by omega);have HN2:Hid (Q≠w.heap.size+1):=zc (by omega);have HN3:Hid (Q≠wr.heap.size):=zc (by omega);have HNX:=zc hnx;clear hnx hho hH;go_region_held3 (fun w'=>w'.cell? ⟨Q+1,0,none⟩=some (.slice (some ⟨Q,0,none⟩) l.length l.length)∧w'.cell? ⟨w.heap.size+1,0,none⟩=some (.int .u64 (lo s:Int))∧w'.cell? ⟨w.heap.size+1,1,none⟩=some (.int .u64 (hi s:Int))∧w'.cell? ⟨wr.heap.size,1,none⟩=some (.int .i64 x.lit))
     (first | exact ⟨e1,e2,e3,d2⟩ | exact ⟨(World.cell?_setCell_far _ _ _ _ HN1.out).trans e1,(World.cell?_setCell_far _ _ _ _ HN2.out).trans e2,(World.cell?_setCell_far _ _ _ _ HN2.out).trans e3,(World.cell?_setCell_far _ _ _ _ HN3.out).trans d2⟩ | go_keep)
     (first
       | (go_simp
          go_at_call 93;(with_reducible refine (HHO.out _).mono ?_);rintro e' w9 ⟨rfl,hb9⟩;replace q1:=q1.below hb9;replace q2:=zh q2 hb9;obtain ⟨d1,d2,d3⟩:=zgw q2;have e1:=zQ q1.box;have e2:w9.cell? ⟨w.heap.size+1,0,none⟩=some (.int .u64 (lo s:Int)):=q1.set.cell (i:=0) (by omega);have e3:w9.cell? ⟨w.heap.size+1,1,none⟩=some (.int .u64 (hi s:Int)):=q1.set.cell (i:=1) (by omega);have e4:=q1.row.cell (i:=k) (by omega);have e5:=q1.row.frozen k))
    all_goals
     try go_wp2
     have HX:=zc (q1.next H k HLL.out.symm);go_roundw
     case rel=>exact ⟨k+1,by omega,by go_num,by rw [HNX.out];exact HX.out⟩
     case measure=>simp [intOf];omega
   ·go_wp2_with fail
    obtain ⟨q1,q2⟩:=HLAID.out _ _ rfl HKD.out;have hrd1:=(HRD.out.below ((zy _ _).alloc (zv _) (.cells #[.int .i64 3,.int .i64 x.lit,.slice A' x.ins.length c'] 66))).more (B':=(wr.alloc (.cells #[.int .i64 3,.int .i64 x.lit,.slice A' x.ins.length c'] 66)).heap.size) (by simp);generalize wr.alloc (.cells #[.int .i64 3,.int .i64 x.lit,.slice A' x.ins.length c'] 66)=W1 at q1 q2 hrd1 ⊢;have HRD1:=zc ((hrd1.below (qY (zy _ _) 1)).more (B':=W1.drew.heap.size) (zv _));clear hrd1;replace q1:=q1.drew;replace q2:=q2.drew;obtain ⟨d1,d2,d3⟩:=zgw q2;have e1:=zQ q1.box;have e4:=q1.row.cell (i:=k) (by omega);have e5:=q1.row.frozen k;have hcf:=fun W (h1:Rd W W.heap.size A' x.ins.length (zV x.ins)) (h2:EvR w n l (some ⟨b,o,none⟩) c s Q L W)=>zbO W A' c' x.ins hr4 h1 95 (.pointer (some ⟨Q+1,0,none⟩)) (fun j=>!L.getD j.toNat false) (enters_of Tryz.func95 (by kernel_rfl) rfl) (fun j hj=>by
     obtain ⟨m,rfl,hm⟩:=HMEM.out j hj;have:=pg W (Q+1) Q l.length m L 4 (zQ h2.box) h2.row (by omega);rw [Int.toNat_natCast];exact this)
    obtain ⟨B,hB⟩:∃ B,x.ins.any (fun j=>!L.getD j.toNat false)=B:=⟨_,rfl⟩;simp only [hB] at hcf;have HCF:=zc hcf;have hst:jm s L x=(!B):=by rw [HST.out,← hB,if_pos trivial];exact all_anyN x.ins _
    have hnx:=HT.out;rw [hst] at hnx;have HNX:=zc hnx;have hlt5:=q1.lt;have HN1:Hid (Q≠Q+1):=zc (by omega);have HN3:Hid (Q≠wr.heap.size):=zc (by omega);clear hnx hcf hst hB;go_region_held3 (fun w'=>w'.cell? ⟨Q+1,0,none⟩=some (.slice (some ⟨Q,0,none⟩) l.length l.length)∧w'.cell? ⟨wr.heap.size,2,none⟩=some (.slice A' x.ins.length c'))
     (first | exact ⟨e1,d3⟩ | exact ⟨(World.cell?_setCell_far _ _ _ _ HN1.out).trans e1,(World.cell?_setCell_far _ _ _ _ HN3.out).trans d3⟩ | go_keep)
     (first
       | (go_simp
          go_at_call 94;(with_reducible refine (HCF.out _ HRD1.out q1).mono ?_);rintro e' w9 ⟨rfl,rfl⟩))
    all_goals
     try go_wp2
     have HX:=zc (q1.next (!B) k HLL.out.symm);go_roundw
     case rel=>exact ⟨k+1,by omega,by go_num,by rw [HNX.out];exact HX.out⟩
     case measure=>simp [intOf];omega
   ·go_wp2_with fail
    obtain ⟨q1,q2⟩:=HLAID.out _ _ rfl HKD.out;have hrd1:=(HRD.out.below ((zy _ _).alloc (zv _) (.cells #[.int .i64 4,.int .i64 x.lit,.slice A' x.ins.length c'] 66))).more (B':=(wr.alloc (.cells #[.int .i64 4,.int .i64 x.lit,.slice A' x.ins.length c'] 66)).heap.size) (by simp);generalize wr.alloc (.cells #[.int .i64 4,.int .i64 x.lit,.slice A' x.ins.length c'] 66)=W1 at q1 q2 hrd1 ⊢;have HRD1:=zc ((hrd1.below (qY (zy _ _) 1)).more (B':=W1.drew.heap.size) (zv _));clear hrd1;replace q1:=q1.drew;replace q2:=q2.drew;obtain ⟨d1,d2,d3⟩:=zgw q2;have e1:=zQ q1.box;have e4:=q1.row.cell (i:=k) (by omega);have e5:=q1.row.frozen k;have hcf:=fun W (h1:Rd W W.heap.size A' x.ins.length (zV x.ins)) (h2:EvR w n l (some ⟨b,o,none⟩) c s Q L W)=>zbO W A' c' x.ins hr4 h1 96 (.pointer (some ⟨Q+1,0,none⟩)) (fun j=>L.getD j.toNat false) (enters_of Tryz.func96 (by kernel_rfl) rfl) (fun j hj=>by
     obtain ⟨m,rfl,hm⟩:=HMEM.out j hj;have:=pf W (Q+1) Q l.length m L 4 (zQ h2.box) h2.row (by omega);rw [Int.toNat_natCast];exact this)
    obtain ⟨B,hB⟩:∃ B,x.ins.any (fun j=>L.getD j.toNat false)=B:=⟨_,rfl⟩;simp only [hB] at hcf;have HCF:=zc hcf;have hst:jm s L x=B:=by rw [HST.out,← hB];simp
    have hnx:=HT.out;rw [hst] at hnx;have HNX:=zc hnx;have hlt5:=q1.lt;have HN1:Hid (Q≠Q+1):=zc (by omega);have HN3:Hid (Q≠wr.heap.size):=zc (by omega);clear hnx hcf hst hB;go_region_held3 (fun w'=>w'.cell? ⟨Q+1,0,none⟩=some (.slice (some ⟨Q,0,none⟩) l.length l.length)∧w'.cell? ⟨wr.heap.size,2,none⟩=some (.slice A' x.ins.length c'))
     (first | exact ⟨e1,d3⟩ | exact ⟨(World.cell?_setCell_far _ _ _ _ HN1.out).trans e1,(World.cell?_setCell_far _ _ _ _ HN3.out).trans d3⟩ | go_keep)
     (first
       | (go_simp
          go_at_call 94;(with_reducible refine (HCF.out _ HRD1.out q1).mono ?_);rintro e' w9 ⟨rfl,rfl⟩))
    all_goals
     try go_wp2
     have HX:=zc (q1.next B k HLL.out.symm);go_roundw
     case rel=>exact ⟨k+1,by omega,by go_num,by rw [HNX.out];exact HX.out⟩
     case measure=>simp [intOf];omega
  ·obtain rfl:k=l.length:=by omega
   rw [List.take_length] at hE;have hi1:¬ ((l.length:Int)<(l.length:Int)):=by omega
   have hi2:(0:Int)≤(l.length:Int)-1:=by omega
   have hi3:(l.length:Int)-1<(l.length:Int):=by omega
   have hwr:IntKind.i64.wrap ((l.length:Int)-1)=(l.length:Int)-1:=by rw [IntKind.wrap_i64];omega
   have htn:((l.length:Int)-1).toNat=l.length-1:=by omega
   have hc18:=zQ hE.box;have hc19:=hE.row.cell (i:=l.length-1) (by omega);unfold jO at hc19;rw [HEV.out] at hc19;have hb:=hE.bl;clear hE hlt;go_wp2;go_ret;exact ⟨rfl,hb⟩
end Go.Proofs.YtmhllppjcilllaaGreatDoor
end
