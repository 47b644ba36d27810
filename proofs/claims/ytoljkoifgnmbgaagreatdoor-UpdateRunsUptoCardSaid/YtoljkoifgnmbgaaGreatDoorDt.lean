import Derived.Test.YtoljkoifgnmbgaaGreatDoorDs
import Derived.WalkMore
import Derived.Deep.CutBlock
import Derived.Deep.CutRange
set_option linter.unusedSimpArgs false
set_option linter.unusedVariables false
set_option maxRecDepth 100000
set_option maxHeartbeats 4000000
section
open Go Go.RowKit Cs
namespace Cs
def jy (p:Pr):Nat:=nd 2 p.1+nd 2 (qd p.2)
def zG (l:List Pr):Nat→Nat
 | 0=>0
 | k+1=>zG l k+jy (l.getD (k+1) (0,0))
def ju (N:Nt) (lo hi:List Pr):Int :=
 if zC N=true∧(lo.length:Int)=N.n+1∧(hi.length:Int)=N.n+1 then (if qz N=0 then (if 16384<zG lo N.n.toNat+zG hi N.n.toNat then 2 else 0) else qz N) else 1
end Cs
namespace Go.Proofs.YtoljkoifgnmbgaaGreatDoor
abbrev jM (Al Ah:Option Addr) (ml mh cl ch:Nat):Value:=.agg #[.slice Al ml cl,.slice Ah mh ch]
theorem zkS (w:World) (N:Nt) (A:Option Addr) (c cl ch:Nat) (lo hi:List Pr) (Al Ah:Option Addr) (hlen:N.l.length≤140737488355328) (hN:NtAt w w.heap.size A N.l)
  (hbad:zC N=false∨(zC N=true∧¬ (lo.length:Int)=N.n+1)∨(zC N=true∧(lo.length:Int)=N.n+1∧¬ (hi.length:Int)=N.n+1)) :
  Calls Tryz.prog 40 #[ql N A c,jM Al Ah lo.length hi.length cl ch] w fun e w'=>e = .returned (.int .i64 1)∧Below w.heap.size w w':=by
 have hnc:=fun W h=>zbq W N A c hlen h;have hbox:=(jx w N A c 24 _ rfl).alloc (.cells #[.slice Al lo.length cl,.slice Ah hi.length ch] 30);have hwts:=zU (w.alloc (.cells #[.int .i64 N.n,.slice A N.l.length c] 24)) #[.slice Al lo.length cl,.slice Ah hi.length ch] 30 (w.heap.size+1) 2 (by simp) rfl;have hbl:Below w.heap.size w _:=((zA _ _).alloc (zi _) (.cells #[.int .i64 N.n,.slice A N.l.length c] 24)).alloc (by simp) (.cells #[.slice Al lo.length cl,.slice Ah hi.length ch] 30);have hck:jm N=if zC N=true then 0 else 1:=by unfold jm;cases zC N <;> rfl
 simp only [hck] at hnc;generalize lo.length=ml at *
 generalize hi.length=mh at *
 obtain ⟨n,l⟩:=N;rcases hbad with h | ⟨h,h2⟩ | ⟨h,h2,h3⟩
 ·simp only [h] at hnc;have HNC:=za hnc;clear hnc hck h;go_enter Tryz.func40, Tryz.ntmps40;go_wp2_with (
   go_at_call 86;(with_reducible refine (HNC.out _ ((hN.below hbl).more hbl.size)).mono ?_);rintro e w5 ⟨rfl,hb5⟩;have hbl5:=zu hbl hb5 hbl.size)
  go_ret;exact ⟨rfl,hbl5⟩
 ·simp only [h] at hnc;obtain ⟨hn0,hn1,hl0,hl1⟩:=qD h;have HNC:=za hnc;have hne:((ml:Int)==n+1)=false:=beq_eq_false_iff_ne.2 h2;have hne2:((ml:Int) != n+1)=true:=by simp [bne,hne]
  simp only at hn0 hn1;clear hnc hck h;go_enter Tryz.func40, Tryz.ntmps40;go_wp2_with (
   go_at_call 86;(with_reducible refine (HNC.out _ ((hN.below hbl).more hbl.size)).mono ?_);rintro e w5 ⟨rfl,hb5⟩;replace hbox:=zh hbox hb5;replace hwts:=zh hwts hb5;obtain ⟨hnc1,hnc2⟩:=yg hbox;have hw1:w5.cell? ⟨w.heap.size+1,0,none⟩=some (.slice Al ml cl):=hwts.cell (i:=0) (by omega);have hbl5:=zu hbl hb5 hbl.size)
  go_ret;exact ⟨rfl,hbl5⟩
 ·simp only [h] at hnc;obtain ⟨hn0,hn1,hl0,hl1⟩:=qD h;have HNC:=za hnc;have hne:((ml:Int)==n+1)=true:=beq_iff_eq.2 h2;have hne2:((ml:Int) != n+1)=false:=by simp [bne,hne]
  have hnf:((mh:Int)==n+1)=false:=beq_eq_false_iff_ne.2 h3;have hnf2:((mh:Int) != n+1)=true:=by simp [bne,hnf]
  simp only at hn0 hn1;clear hnc hck h h2 h3;go_enter Tryz.func40, Tryz.ntmps40;go_wp2_with (
   go_at_call 86;(with_reducible refine (HNC.out _ ((hN.below hbl).more hbl.size)).mono ?_);rintro e w5 ⟨rfl,hb5⟩;replace hbox:=zh hbox hb5;replace hwts:=zh hwts hb5;obtain ⟨hnc1,hnc2⟩:=yg hbox;have hw1:w5.cell? ⟨w.heap.size+1,0,none⟩=some (.slice Al ml cl):=hwts.cell (i:=0) (by omega);have hw2:w5.cell? ⟨w.heap.size+1,1,none⟩=some (.slice Ah mh ch):=hwts.cell (i:=1) (by omega);have hbl5:=zu hbl hb5 hbl.size)
  go_ret;exact ⟨rfl,hbl5⟩
def T0 (lo hi:List Pr) (n:Nat):Nat→Nat
 | 0=>0
 | 1=>zG lo n
 | _=>zG lo n+zG hi n
theorem zia (l:List Pr) {a b:Nat} (h:a≤b):zG l a≤zG l b:=by
 induction b with
 | zero=>rw [show a=0 by omega];exact zi _
 | succ b ih =>
   by_cases h1:a=b+1
   ·rw [h1];exact zi _
   ·have:=ih (by omega);show zG l a≤zG l b+_;omega
theorem zkn {V:Nat} (h:n8 V≤125000):nd 2 V≤1000000:=by
 rcases Nat.eq_zero_or_pos V with h0 | h0
 ·rw [h0,zbT];omega
 ·rw [zi0 V h0];have h1:=zkH V (n8 V-1);have h2:nd 2 (qy V (n8 V-1))≤8:=(yh 2 (by decide) 8 _).2 h1;omega
theorem pk (p:Pr):1≤jy p:=by
 have:nd 2 (qd p.2)≠0:=fun e=>by rw [zbj 2 (by decide)] at e;exact zir _ e
 unfold jy;omega
theorem zgn (w:World) (N:Nt) (A:Option Addr) (c cl ch n:Nat) (lo hi:List Pr) (Al Ah:Option Addr) (hN:NtAt w w.heap.size A N.l) (hv:zC N=true) (hn:N.n=(n:Int)) (hT:Tab w)
  (hlo:Rd w w.heap.size Al ((n+1)*2) (zT lo)) (hhi:Rd w w.heap.size Ah ((n+1)*2) (zT hi)) (hs1:∀ k,Sp (lo.getD k (0,0))) (hs2:∀ k,Sp (hi.getD k (0,0))) (hc1:n+1≤cl) (hc2:n+1≤ch) (R:Int)
  (hR:R=if qz N=0 then (if 16384<zG lo n+zG hi n then 2 else 0) else qz N) :
  Calls Tryz.prog 40 #[ql N A c,jM Al Ah (n+1) (n+1) cl ch] w fun e w'=>e = .returned (.int .i64 R)∧Below w.heap.size w w':=by
 obtain ⟨hn0,hn1,hl0,hl1⟩:=qD hv;have hnc:∀ W,NtAt W W.heap.size A N.l→Calls Tryz.prog 86 #[ql N A c] W fun e w'=>e = .returned (.int .i64 0)∧Below W.heap.size W w':=fun W h=>by
  have:=zbq W N A c (by omega) h;have h2:jm N=0:=by unfold jm;rw [hv];rfl
  rwa [h2] at this
 have hcc:=fun W h hT=>zgi W N A c (by omega) h hT;have hbox:=(jx w N A c 24 _ rfl).alloc (.cells #[.slice Al (n+1) cl,.slice Ah (n+1) ch] 30);have hwts:=zU (w.alloc (.cells #[.int .i64 N.n,.slice A N.l.length c] 24)) #[.slice Al (n+1) cl,.slice Ah (n+1) ch] 30 (w.heap.size+1) 2 (by simp) rfl;have hbl:Below w.heap.size w _:=((zA _ _).alloc (zi _) (.cells #[.int .i64 N.n,.slice A N.l.length c] 24)).alloc (by simp) (.cells #[.slice Al (n+1) cl,.slice Ah (n+1) ch] 30);obtain ⟨bl,ol,rfl,hbl1,hcl⟩:=hlo (by omega);obtain ⟨bh,oh,rfl,hbh1,hch⟩:=hhi (by omega);obtain ⟨C,hC⟩:∃ C,qz N=C:=⟨_,rfl⟩;simp only [hC] at hcc hR;have HNC:=za hnc;have HCC:=za hcc;obtain ⟨Nn,l⟩:=N;simp only at hn hn0 hn1;subst hn;have HR:=za hR;clear hnc hcc hv hC hlo hhi hR;by_cases h0:C=0
 ·subst h0;have hR:=HR.out;rw [if_pos rfl] at hR;have HR2:=za hR;clear hR HR;go_enter Tryz.func40, Tryz.ntmps40;go_wp2_with (first
   | (go_at_call 86
      (with_reducible refine (HNC.out _ ((hN.below hbl).more hbl.size)).mono ?_);rintro e w5 ⟨rfl,hb5⟩;replace hbox:=zh hbox hb5;replace hwts:=zh hwts hb5;obtain ⟨hnc1,hnc2⟩:=yg hbox;have hw1:w5.cell? ⟨w.heap.size+1,0,none⟩=some (.slice (some ⟨bl,ol,none⟩) (n+1) cl):=hwts.cell (i:=0) (by omega);have hw2:w5.cell? ⟨w.heap.size+1,1,none⟩=some (.slice (some ⟨bh,oh,none⟩) (n+1) ch):=hwts.cell (i:=1) (by omega);replace hbl:=zu hbl hb5 hbl.size)
   | (go_at_call 74
      (with_reducible refine (HCC.out _ ((hN.below hbl).more hbl.size) (hT.below hbl)).mono ?_);rintro e w6 ⟨rfl,hb6⟩;replace hwts:=zh hwts hb6;have hw1:w6.cell? ⟨w.heap.size+1,0,none⟩=some (.slice (some ⟨bl,ol,none⟩) (n+1) cl):=hwts.cell (i:=0) (by omega);have hw2:w6.cell? ⟨w.heap.size+1,1,none⟩=some (.slice (some ⟨bh,oh,none⟩) (n+1) ch):=hwts.cell (i:=1) (by omega);replace hbl:=zu hbl hb6 hbl.size))
  have hl1:(1:Int)≤(n:Int)+1:=by omega
  have hcp1:=hc1;have hcp2:=hc2
  go_region
  obtain ⟨P1,hP1⟩:∃ P1,(if cl=1 then (some ⟨bl,ol,none⟩:Option Addr) else some ⟨bl,ol+2,none⟩)=P1:=⟨_,rfl⟩;obtain ⟨P2,hP2⟩:∃ P2,(if ch=1 then (some ⟨bh,oh,none⟩:Option Addr) else some ⟨bh,oh+2,none⟩)=P2:=⟨_,rfl⟩;rw [hP1,hP2];have HP1:Hid (0<n→P1=some ⟨bl,ol+2,none⟩):=za fun h=>by rw [← hP1,if_neg (by omega)]
  have HP2:Hid (0<n→P2=some ⟨bh,oh+2,none⟩):=za fun h=>by rw [← hP2,if_neg (by omega)]
  clear hP1 hP2;have x0:∀ W:World,(Instr.index 136 (.agg #[.slice P1 n (cl-1),.slice P2 n (ch-1)]) (.int .i64 0)).run Tryz.prog W = .ok (.slice P1 n (cl-1)) W:=fun _=>by kernel_rfl
  have x1:∀ W:World,(Instr.index 136 (.agg #[.slice P1 n (cl-1),.slice P2 n (ch-1)]) (.int .i64 1)).run Tryz.prog W = .ok (.slice P2 n (ch-1)) W:=fun _=>by kernel_rfl
  go_wp2_with fail
  go_loopw [6,44] (fun lf t wr=>∃ k:Nat,k≤2∧t = .int .i64 k∧lf = .int .i64 (16384-(T0 lo hi n k:Nat))∧T0 lo hi n k≤16384∧wr.rowIs (w.heap.size+1) 30 2 (zE #[.slice (some ⟨bl,ol,none⟩) (n+1) cl,.slice (some ⟨bh,oh,none⟩) (n+1) ch])∧Below w.heap.size w wr) (fun _ t _=>2-(intOf t).toNat)
  case atStart=>exact ⟨0,by omega,rfl,by simp [T0],by simp [T0],hwts.drew,hbl.drew⟩
  case round =>
   clear hwts hbl hw1 hw2;obtain ⟨k,hk,rfl,rfl,hle,hwts,hbl⟩:=hrel;have hk3:k=0∨k=1∨k=2:=by omega
   rcases hk3 with rfl | rfl | rfl
   ·have hT0:T0 lo hi n 0=0:=rfl;rw [hT0] at hle ⊢;rw [show ((0:Nat):Int)=0 from rfl];go_wp2_with fail
    go_loopw [6,49] (fun lf t wr=>∃ i:Nat,i≤n∧t = .int .i64 i∧lf = .int .i64 (16384-(zG lo i:Nat))∧zG lo i≤16384∧wr.rowIs (w.heap.size+1) 30 2 (zE #[.slice (some ⟨bl,ol,none⟩) (n+1) cl,.slice (some ⟨bh,oh,none⟩) (n+1) ch])∧Below w.heap.size w wr) (fun _ t _=>n-(intOf t).toNat)
    case atStart=>exact ⟨0,by omega,rfl,by simp [zG],by simp [zG];try omega,hwts,hbl⟩
    case round =>
     clear hwts hbl;obtain ⟨i,hile,rfl,rfl,hle2,hwts,hbl⟩:=hrel;by_cases hin:i<n
     ·obtain rfl:=HP1.out (by omega);have c1:w.cell? ⟨bl,ol+2+i*2,none⟩=some (.string (zb (lo.getD (i+1) (0,0)).1)):=by
       have:=hcl ((i+1)*2) (by omega);rw [jB] at this;rw [← this];congr 2;omega
      have c2:w.cell? ⟨bl,ol+2+i*2+1,none⟩=some (.string (zb (lo.getD (i+1) (0,0)).2)):=by
       have:=hcl ((i+1)*2+1) (by omega);rw [jC] at this;rw [← this];congr 2;omega
      replace c1:=zF hbl hbl1 c1;replace c2:=zF hbl hbl1 c2;have hsp:=hs1 (i+1);have hsuc:zG lo (i+1)=zG lo i+jy (lo.getD (i+1) (0,0)):=rfl;have hmono:zG lo (i+1)≤zG lo n:=zia _ (by omega);generalize lo.getD (i+1) (0,0)=y at *
      obtain ⟨yn,yd⟩:=y;have hq8:=zhs yd hsp.2;have hln:=fun W=>zbz W yn (by have:=hsp.1;simp only at this;omega);have hlq:=fun W=>zbz W (qd yd) (by omega);have hnu:=fun W=>gX W yn yd;have hde:=fun W=>zdG W yn yd (by have:=hsp.2;simp only at this;omega);have hb1:nd 2 yn≤1000000:=zkn (by have:=hsp.1;simp only at this;omega);have hb2:nd 2 (qd yd)≤1000000:=zkn (by omega);have hpb:jy (yn,yd)=nd 2 yn+nd 2 (qd yd):=rfl;rw [hpb] at hsuc;generalize nd 2 yn=B1 at *
      generalize nd 2 (qd yd)=B2 at *
      generalize qd yd=Qd at *
      generalize hS1:zG lo (i+1)=S1 at *
      have HS1:=za hS1;clear hS1;generalize zG lo i=S0' at *
      have hw1:IntKind.i64.wrap ((B1:Int)+(B2:Int))=(B1:Int)+(B2:Int):=by rw [IntKind.wrap_i64];omega
      have hw2:IntKind.i64.wrap (16384-(S0':Int)-((B1:Int)+(B2:Int)))=16384-(S0':Int)-((B1:Int)+(B2:Int)):=by rw [IntKind.wrap_i64];omega
      have HLN:=za hln;have HLQ:=za hlq;have HNU:=za hnu;have HDE:=za hde;clear hln hlq hnu hde hsp hq8 hpb;have hi1:(0:Int)≤(i:Int):=by omega
      have hi2:(i:Int)<(n:Int):=by omega
      obtain ⟨W0,rfl⟩:∃ W0,W0=wr:=⟨wr,rfl⟩;have hq:=zcK W0 yn yd 60 _ rfl;have hwt2:=hwts.alloc (.cells #[.string (zb yn),.string (zb yd)] 60);have hbl2:=hbl.alloc hbl.size (.cells #[.string (zb yn),.string (zb yd)] 60);by_cases hbig:16384<S1
      ·have HR3:Hid (R=2):=za (by rw [HR2.out,if_pos (by omega)]);go_wp2_with fail
       replace hq:=hq.drew;replace hwt2:=hwt2.drew;replace hbl2:=hbl2.drew;obtain ⟨z1,z2⟩:=qB hq;go_region_held3 (fun w'=>w'.cell? ⟨W0.heap.size,0,none⟩=some (.string (zb yn))∧w'.cell? ⟨W0.heap.size,1,none⟩=some (.string (zb yd)))
        (first | exact ⟨z1,z2⟩ | go_keep)
        (first
          | (go_simp
             go_at_call 87;(with_reducible first | refine (HNU.out _).mono ?_);rintro e w9 ⟨rfl,hb9⟩;replace hq:=zh hq hb9;replace hwt2:=zh hwt2 hb9;replace hbl2:=zu hbl2 hb9 hbl2.size;obtain ⟨z1,z2⟩:=qB hq)
          | (go_simp
             go_at_call 89;(with_reducible first | refine (HDE.out _).mono ?_);rintro e w9 ⟨rfl,hb9⟩;replace hq:=zh hq hb9;replace hwt2:=zh hwt2 hb9;replace hbl2:=zu hbl2 hb9 hbl2.size;obtain ⟨z1,z2⟩:=qB hq)
          | (go_simp
             go_at_call 88;(with_reducible first | refine (HLN.out _).mono ?_ | refine (HLQ.out _).mono ?_);rintro e w9 ⟨rfl,hb9⟩;replace hq:=zh hq hb9;replace hwt2:=zh hwt2 hb9;replace hbl2:=zu hbl2 hb9 hbl2.size;obtain ⟨z1,z2⟩:=qB hq))
       all_goals
        try go_wp2
        go_ret;exact ⟨by rw [HR3.out];rfl,hbl2⟩
      ·go_wp2_with fail
       replace hq:=hq.drew;replace hwt2:=hwt2.drew;replace hbl2:=hbl2.drew;obtain ⟨z1,z2⟩:=qB hq;go_region_held3 (fun w'=>w'.cell? ⟨W0.heap.size,0,none⟩=some (.string (zb yn))∧w'.cell? ⟨W0.heap.size,1,none⟩=some (.string (zb yd)))
        (first | exact ⟨z1,z2⟩ | go_keep)
        (first
          | (go_simp
             go_at_call 87;(with_reducible first | refine (HNU.out _).mono ?_);rintro e w9 ⟨rfl,hb9⟩;replace hq:=zh hq hb9;replace hwt2:=zh hwt2 hb9;replace hbl2:=zu hbl2 hb9 hbl2.size;obtain ⟨z1,z2⟩:=qB hq)
          | (go_simp
             go_at_call 89;(with_reducible first | refine (HDE.out _).mono ?_);rintro e w9 ⟨rfl,hb9⟩;replace hq:=zh hq hb9;replace hwt2:=zh hwt2 hb9;replace hbl2:=zu hbl2 hb9 hbl2.size;obtain ⟨z1,z2⟩:=qB hq)
          | (go_simp
             go_at_call 88;(with_reducible first | refine (HLN.out _).mono ?_ | refine (HLQ.out _).mono ?_);rintro e w9 ⟨rfl,hb9⟩;replace hq:=zh hq hb9;replace hwt2:=zh hwt2 hb9;replace hbl2:=zu hbl2 hb9 hbl2.size;obtain ⟨z1,z2⟩:=qB hq))
       all_goals
        try go_wp2
        go_roundw
        case rel=>exact ⟨i+1,by omega,by go_num,by rw [HS1.out];simp;omega,by rw [HS1.out];omega,hwt2,hbl2⟩
        case measure=>simp [intOf];omega
     ·obtain rfl:i=n:=by omega
      go_wp2_with fail
      go_roundw
      case rel=>exact ⟨0+1,by omega,by go_num,by simp [T0],by simp [T0];omega,hwts,hbl⟩
      case measure=>simp [intOf]
   ·have hT0:T0 lo hi n 1=zG lo n:=rfl;rw [hT0] at hle ⊢;rw [show ((1:Nat):Int)=1 from rfl];go_wp2_with fail
    go_loopw [6,49] (fun lf t wr=>∃ i:Nat,i≤n∧t = .int .i64 i∧lf = .int .i64 (16384-(zG lo n+zG hi i:Nat))∧zG lo n+zG hi i≤16384∧wr.rowIs (w.heap.size+1) 30 2 (zE #[.slice (some ⟨bl,ol,none⟩) (n+1) cl,.slice (some ⟨bh,oh,none⟩) (n+1) ch])∧Below w.heap.size w wr) (fun _ t _=>n-(intOf t).toNat)
    case atStart=>exact ⟨0,by omega,rfl,by simp [zG],by simp [zG];try omega,hwts,hbl⟩
    case round =>
     clear hwts hbl;obtain ⟨i,hile,rfl,rfl,hle2,hwts,hbl⟩:=hrel;by_cases hin:i<n
     ·obtain rfl:=HP2.out (by omega);have c1:w.cell? ⟨bh,oh+2+i*2,none⟩=some (.string (zb (hi.getD (i+1) (0,0)).1)):=by
       have:=hch ((i+1)*2) (by omega);rw [jB] at this;rw [← this];congr 2;omega
      have c2:w.cell? ⟨bh,oh+2+i*2+1,none⟩=some (.string (zb (hi.getD (i+1) (0,0)).2)):=by
       have:=hch ((i+1)*2+1) (by omega);rw [jC] at this;rw [← this];congr 2;omega
      replace c1:=zF hbl hbh1 c1;replace c2:=zF hbl hbh1 c2;have hsp:=hs2 (i+1);have hsuc:zG hi (i+1)=zG hi i+jy (hi.getD (i+1) (0,0)):=rfl;have hmono:zG hi (i+1)≤zG hi n:=zia _ (by omega);generalize hi.getD (i+1) (0,0)=y at *
      obtain ⟨yn,yd⟩:=y;have hq8:=zhs yd hsp.2;have hln:=fun W=>zbz W yn (by have:=hsp.1;simp only at this;omega);have hlq:=fun W=>zbz W (qd yd) (by omega);have hnu:=fun W=>gX W yn yd;have hde:=fun W=>zdG W yn yd (by have:=hsp.2;simp only at this;omega);have hb1:nd 2 yn≤1000000:=zkn (by have:=hsp.1;simp only at this;omega);have hb2:nd 2 (qd yd)≤1000000:=zkn (by omega);have hpb:jy (yn,yd)=nd 2 yn+nd 2 (qd yd):=rfl;rw [hpb] at hsuc;generalize nd 2 yn=B1 at *
      generalize nd 2 (qd yd)=B2 at *
      generalize qd yd=Qd at *
      generalize hS1:zG hi (i+1)=S1 at *
      have HS1:=za hS1;clear hS1;generalize zG hi i=S0' at *
      have hw1:IntKind.i64.wrap ((B1:Int)+(B2:Int))=(B1:Int)+(B2:Int):=by rw [IntKind.wrap_i64];omega
      have hw2:IntKind.i64.wrap (16384-((zG lo n:Nat)+(S0':Int))-((B1:Int)+(B2:Int)))=16384-((zG lo n:Nat)+(S0':Int))-((B1:Int)+(B2:Int)):=by rw [IntKind.wrap_i64];omega
      have HLN:=za hln;have HLQ:=za hlq;have HNU:=za hnu;have HDE:=za hde;clear hln hlq hnu hde hsp hq8 hpb;have hi1:(0:Int)≤(i:Int):=by omega
      have hi2:(i:Int)<(n:Int):=by omega
      obtain ⟨W0,rfl⟩:∃ W0,W0=wr:=⟨wr,rfl⟩;have hq:=zcK W0 yn yd 60 _ rfl;have hwt2:=hwts.alloc (.cells #[.string (zb yn),.string (zb yd)] 60);have hbl2:=hbl.alloc hbl.size (.cells #[.string (zb yn),.string (zb yd)] 60);by_cases hbig:16384<zG lo n+S1
      ·have HR3:Hid (R=2):=za (by rw [HR2.out,if_pos (by omega)]);go_wp2_with fail
       replace hq:=hq.drew;replace hwt2:=hwt2.drew;replace hbl2:=hbl2.drew;obtain ⟨z1,z2⟩:=qB hq;go_region_held3 (fun w'=>w'.cell? ⟨W0.heap.size,0,none⟩=some (.string (zb yn))∧w'.cell? ⟨W0.heap.size,1,none⟩=some (.string (zb yd)))
        (first | exact ⟨z1,z2⟩ | go_keep)
        (first
          | (go_simp
             go_at_call 87;(with_reducible first | refine (HNU.out _).mono ?_);rintro e w9 ⟨rfl,hb9⟩;replace hq:=zh hq hb9;replace hwt2:=zh hwt2 hb9;replace hbl2:=zu hbl2 hb9 hbl2.size;obtain ⟨z1,z2⟩:=qB hq)
          | (go_simp
             go_at_call 89;(with_reducible first | refine (HDE.out _).mono ?_);rintro e w9 ⟨rfl,hb9⟩;replace hq:=zh hq hb9;replace hwt2:=zh hwt2 hb9;replace hbl2:=zu hbl2 hb9 hbl2.size;obtain ⟨z1,z2⟩:=qB hq)
          | (go_simp
             go_at_call 88;(with_reducible first | refine (HLN.out _).mono ?_ | refine (HLQ.out _).mono ?_);rintro e w9 ⟨rfl,hb9⟩;replace hq:=zh hq hb9;replace hwt2:=zh hwt2 hb9;replace hbl2:=zu hbl2 hb9 hbl2.size;obtain ⟨z1,z2⟩:=qB hq))
       all_goals
        try go_wp2
        go_ret;exact ⟨by rw [HR3.out];rfl,hbl2⟩
      ·go_wp2_with fail
       replace hq:=hq.drew;replace hwt2:=hwt2.drew;replace hbl2:=hbl2.drew;obtain ⟨z1,z2⟩:=qB hq;go_region_held3 (fun w'=>w'.cell? ⟨W0.heap.size,0,none⟩=some (.string (zb yn))∧w'.cell? ⟨W0.heap.size,1,none⟩=some (.string (zb yd)))
        (first | exact ⟨z1,z2⟩ | go_keep)
        (first
          | (go_simp
             go_at_call 87;(with_reducible first | refine (HNU.out _).mono ?_);rintro e w9 ⟨rfl,hb9⟩;replace hq:=zh hq hb9;replace hwt2:=zh hwt2 hb9;replace hbl2:=zu hbl2 hb9 hbl2.size;obtain ⟨z1,z2⟩:=qB hq)
          | (go_simp
             go_at_call 89;(with_reducible first | refine (HDE.out _).mono ?_);rintro e w9 ⟨rfl,hb9⟩;replace hq:=zh hq hb9;replace hwt2:=zh hwt2 hb9;replace hbl2:=zu hbl2 hb9 hbl2.size;obtain ⟨z1,z2⟩:=qB hq)
          | (go_simp
             go_at_call 88;(with_reducible first | refine (HLN.out _).mono ?_ | refine (HLQ.out _).mono ?_);rintro e w9 ⟨rfl,hb9⟩;replace hq:=zh hq hb9;replace hwt2:=zh hwt2 hb9;replace hbl2:=zu hbl2 hb9 hbl2.size;obtain ⟨z1,z2⟩:=qB hq))
       all_goals
        try go_wp2
        go_roundw
        case rel=>exact ⟨i+1,by omega,by go_num,by rw [HS1.out];simp;omega,by rw [HS1.out];omega,hwt2,hbl2⟩
        case measure=>simp [intOf];omega
     ·obtain rfl:i=n:=by omega
      go_wp2_with fail
      go_roundw
      case rel=>exact ⟨1+1,by omega,by go_num,by simp [T0],by simp [T0];omega,hwts,hbl⟩
      case measure=>simp [intOf]
   ·have hR2:=HR2.out;have hT0:T0 lo hi n 2=zG lo n+zG hi n:=rfl;rw [hT0] at hle;rw [if_neg (by omega)] at hR2;have HR3:=za hR2;clear hR2 hT0 hle;go_wp2_with fail
    go_ret;exact ⟨by rw [HR3.out];rfl,hbl⟩
 ·have hR:=HR.out;rw [if_neg h0] at hR;subst hR;have hb0:(R==0)=false:=beq_eq_false_iff_ne.2 h0;have hb1:(R != 0)=true:=by simp [bne,hb0]
  clear HR;go_enter Tryz.func40, Tryz.ntmps40;go_wp2_with (first
   | (go_at_call 86
      (with_reducible refine (HNC.out _ ((hN.below hbl).more hbl.size)).mono ?_);rintro e w5 ⟨rfl,hb5⟩;replace hbox:=zh hbox hb5;replace hwts:=zh hwts hb5;obtain ⟨hnc1,hnc2⟩:=yg hbox;have hw1:w5.cell? ⟨w.heap.size+1,0,none⟩=some (.slice (some ⟨bl,ol,none⟩) (n+1) cl):=hwts.cell (i:=0) (by omega);have hw2:w5.cell? ⟨w.heap.size+1,1,none⟩=some (.slice (some ⟨bh,oh,none⟩) (n+1) ch):=hwts.cell (i:=1) (by omega);replace hbl:=zu hbl hb5 hbl.size)
   | (go_at_call 74
      (with_reducible refine (HCC.out _ ((hN.below hbl).more hbl.size) (hT.below hbl)).mono ?_);rintro e w6 ⟨rfl,hb6⟩;replace hbl:=zu hbl hb6 hbl.size))
  go_ret;exact ⟨rfl,hbl⟩
end Go.Proofs.YtoljkoifgnmbgaaGreatDoor
end
section
open Go Go.RowKit Cs
namespace Cs
theorem xg {p:Pr} (h:Lp p):jy p=nd 2 (qn (qp p))+nd 2 (qp p).den:=by
 unfold jy qp;rw [← h.1,h.qd]
theorem zgL {n:Nat} {lo hi:List Pr} (hl:∀ k,Lp (lo.getD k (0,0))) (hh:∀ k,Lp (hi.getD k (0,0))):∀ m,m≤n→zj6 (Wq n lo hi) m=zG lo m+zG hi m
 | 0,_=>rfl
 | m+1,h=>by
   have ih:=zgL (n:=n) hl hh m (by omega);have e1:Wq n lo hi ((m+1:Nat):Int)=qp (hi.getD (m+1) (0,0)):=by
    unfold Wq qL;rw [Int.natAbs_natCast,if_pos ⟨by omega,h⟩,if_neg (by omega)]
   have e2:Wq n lo hi (-((m+1:Nat):Int))=qp (lo.getD (m+1) (0,0)):=by
    unfold Wq qL;rw [Int.natAbs_neg,Int.natAbs_natCast,if_pos ⟨by omega,h⟩,if_pos (by omega)]
   show zj6 (Wq n lo hi) m+_+_=(zG lo m+_)+(zG hi m+_);rw [e1,e2,ih,xg (hl (m+1)),xg (hh (m+1))];omega
structure WtIn (n:Nat) (lo hi:List Pr):Prop where
 ll:lo.length=n+1
 lh:hi.length=n+1
 pl:∀ k,Lp (lo.getD k (0,0))
 ph:∀ k,Lp (hi.getD k (0,0))
 l0:S0 (lo.getD 0 (0,0))
 h0:S0 (hi.getD 0 (0,0))
 sl:∀ k,Sp (lo.getD k (0,0))
 sh:∀ k,Sp (hi.getD k (0,0))
theorem WtIn.ok {n:Nat} {lo hi:List Pr} (h:WtIn n lo hi) (hb:¬ 16384<zG lo n+zG hi n):WtOk n lo hi :=
 ⟨h.ll,h.lh,h.pl,h.ph,h.l0,h.h0,by rw [zgL h.pl h.ph n (zi _),wB_eq];omega⟩
theorem zfZ {N:Nt} (hv:zC N=true) (h:qz N=0):qv N=true∧qQ N=true:=by
 unfold qz at h;rw [hv] at h;simp at h;cases hd:qv N
 ·rw [hd] at h;simp at h
 ·rw [hd] at h;cases hs:qQ N
  ·rw [hs] at h;simp at h
  ·exact ⟨rfl,rfl⟩
end Cs
end
