import Derived.Test.YtmhllppjcilllaaGreatDoorDs
import Derived.WalkMore
import Derived.Deep.CutBlock
import Derived.Deep.CutRange
set_option linter.unusedSimpArgs false
set_option linter.unusedVariables false
set_option maxRecDepth 100000
set_option maxHeartbeats 4000000
section
open Go Go.RowKit Cs
namespace Cs
def yR (p:Pr):Nat:=nd 2 p.1+nd 2 (qd p.2)
def zK (l:List Pr):Nat→Nat
 | 0=>0
 | k+1=>zK l k+yR (l.getD (k+1) (0,0))
end Cs
namespace Go.Proofs.YtmhllppjcilllaaGreatDoor
abbrev yJ (Al Ah:Option Addr) (ml mh cl ch:Nat):Value:=.agg #[.slice Al ml cl,.slice Ah mh ch]
theorem zf0 (w:World) (N:Nt) (A:Option Addr) (c cl ch:Nat) (lo hi:List Pr) (Al Ah:Option Addr) (hlen:N.l.length≤140737488355328) (hN:NtAt w w.heap.size A N.l)
  (hbad:zG N=false∨(zG N=true∧¬ (lo.length:Int)=N.n+1)∨(zG N=true∧(lo.length:Int)=N.n+1∧¬ (hi.length:Int)=N.n+1)) :
  Calls Tryz.prog 35 #[qg N A c,yJ Al Ah lo.length hi.length cl ch] w fun e w'=>e = .returned (.int .i64 1)∧Below w.heap.size w w':=by
 have hnc:=fun W h=>zbs W N A c hlen h;have hbox:=(yQ w N A c 24 _ rfl).alloc (.cells #[.slice Al lo.length cl,.slice Ah hi.length ch] 39);have hwts:=zF (w.alloc (.cells #[.int .i64 N.n,.slice A N.l.length c] 24)) #[.slice Al lo.length cl,.slice Ah hi.length ch] 39 (w.heap.size+1) 2 (by simp) rfl;have hbl:Below w.heap.size w _:=((zx _ _).alloc (zu _) (.cells #[.int .i64 N.n,.slice A N.l.length c] 24)).alloc (by simp) (.cells #[.slice Al lo.length cl,.slice Ah hi.length ch] 39);have hck:je N=if zG N=true then 0 else 1:=by unfold je;cases zG N <;> rfl
 simp only [hck] at hnc;generalize lo.length=ml at *
 generalize hi.length=mh at *
 obtain ⟨n,l⟩:=N;rcases hbad with h | ⟨h,h2⟩ | ⟨h,h2,h3⟩
 ·simp only [h] at hnc;have HNC:=zb hnc;clear hnc hck h;go_enter Tryz.func35, Tryz.ntmps35;go_wp2_with (
   go_at_call 46;(with_reducible refine (HNC.out _ ((hN.below hbl).more hbl.size)).mono ?_);rintro e w5 ⟨rfl,hb5⟩;have hbl5:=zw hbl hb5 hbl.size)
  go_ret;exact ⟨rfl,hbl5⟩
 ·simp only [h] at hnc;obtain ⟨hn0,hn1,hl0,hl1⟩:=qN h;have HNC:=zb hnc;have hne:((ml:Int)==n+1)=false:=beq_eq_false_iff_ne.2 h2;have hne2:((ml:Int) != n+1)=true:=by simp [bne,hne]
  simp only at hn0 hn1;clear hnc hck h;go_enter Tryz.func35, Tryz.ntmps35;go_wp2_with (
   go_at_call 46;(with_reducible refine (HNC.out _ ((hN.below hbl).more hbl.size)).mono ?_);rintro e w5 ⟨rfl,hb5⟩;replace hbox:=zo hbox hb5;replace hwts:=zo hwts hb5;obtain ⟨hnc1,hnc2⟩:=qy hbox;have hw1:w5.cell? ⟨w.heap.size+1,0,none⟩=some (.slice Al ml cl):=hwts.cell (i:=0) (by omega);have hbl5:=zw hbl hb5 hbl.size)
  go_ret;exact ⟨rfl,hbl5⟩
 ·simp only [h] at hnc;obtain ⟨hn0,hn1,hl0,hl1⟩:=qN h;have HNC:=zb hnc;have hne:((ml:Int)==n+1)=true:=beq_iff_eq.2 h2;have hne2:((ml:Int) != n+1)=false:=by simp [bne,hne]
  have hnf:((mh:Int)==n+1)=false:=beq_eq_false_iff_ne.2 h3;have hnf2:((mh:Int) != n+1)=true:=by simp [bne,hnf]
  simp only at hn0 hn1;clear hnc hck h h2 h3;go_enter Tryz.func35, Tryz.ntmps35;go_wp2_with (
   go_at_call 46;(with_reducible refine (HNC.out _ ((hN.below hbl).more hbl.size)).mono ?_);rintro e w5 ⟨rfl,hb5⟩;replace hbox:=zo hbox hb5;replace hwts:=zo hwts hb5;obtain ⟨hnc1,hnc2⟩:=qy hbox;have hw1:w5.cell? ⟨w.heap.size+1,0,none⟩=some (.slice Al ml cl):=hwts.cell (i:=0) (by omega);have hw2:w5.cell? ⟨w.heap.size+1,1,none⟩=some (.slice Ah mh ch):=hwts.cell (i:=1) (by omega);have hbl5:=zw hbl hb5 hbl.size)
  go_ret;exact ⟨rfl,hbl5⟩
def T0 (lo hi:List Pr) (n:Nat):Nat→Nat
 | 0=>0
 | 1=>zK lo n
 | _=>zK lo n+zK hi n
theorem zha (l:List Pr) {a b:Nat} (h:a≤b):zK l a≤zK l b:=by
 induction b with
 | zero=>rw [show a=0 by omega];exact zu _
 | succ b ih =>
   by_cases h1:a=b+1
   ·rw [h1];exact zu _
   ·have:=ih (by omega);show zK l a≤zK l b+_;omega
theorem zju {V:Nat} (h:n8 V≤125000):nd 2 V≤1000000:=by
 rcases Nat.eq_zero_or_pos V with h0 | h0
 ·rw [h0,zcq];omega
 ·rw [zhw V h0];have h1:=zjA V (n8 V-1);have h2:nd 2 (ql V (n8 V-1))≤8:=(yg 2 (by decide) 8 _).2 h1;omega
theorem xT (p:Pr):1≤yR p:=by
 have:nd 2 (qd p.2)≠0:=fun e=>by rw [zbm 2 (by decide)] at e;exact zfu _ e
 unfold yR;omega
theorem zcU (w:World) (N:Nt) (A:Option Addr) (c cl ch n:Nat) (lo hi:List Pr) (Al Ah:Option Addr) (hN:NtAt w w.heap.size A N.l) (hv:zG N=true) (hn:N.n=(n:Int)) (hT:Tab w)
  (hlo:Rd w w.heap.size Al ((n+1)*2) (zD lo)) (hhi:Rd w w.heap.size Ah ((n+1)*2) (zD hi)) (hs1:∀ k,Sp (lo.getD k (0,0))) (hs2:∀ k,Sp (hi.getD k (0,0))) (hc1:n+1≤cl) (hc2:n+1≤ch) (R:Int)
  (hR:R=if qu N=0 then (if 16384<zK lo n+zK hi n then 2 else 0) else qu N) :
  Calls Tryz.prog 35 #[qg N A c,yJ Al Ah (n+1) (n+1) cl ch] w fun e w'=>e = .returned (.int .i64 R)∧Below w.heap.size w w':=by
 obtain ⟨hn0,hn1,hl0,hl1⟩:=qN hv;have hnc:∀ W,NtAt W W.heap.size A N.l→Calls Tryz.prog 46 #[qg N A c] W fun e w'=>e = .returned (.int .i64 0)∧Below W.heap.size W w':=fun W h=>by
  have:=zbs W N A c (by omega) h;have h2:je N=0:=by unfold je;rw [hv];rfl
  rwa [h2] at this
 have hcc:=fun W h hT=>zfw W N A c (by omega) h hT;have hbox:=(yQ w N A c 24 _ rfl).alloc (.cells #[.slice Al (n+1) cl,.slice Ah (n+1) ch] 39);have hwts:=zF (w.alloc (.cells #[.int .i64 N.n,.slice A N.l.length c] 24)) #[.slice Al (n+1) cl,.slice Ah (n+1) ch] 39 (w.heap.size+1) 2 (by simp) rfl;have hbl:Below w.heap.size w _:=((zx _ _).alloc (zu _) (.cells #[.int .i64 N.n,.slice A N.l.length c] 24)).alloc (by simp) (.cells #[.slice Al (n+1) cl,.slice Ah (n+1) ch] 39);obtain ⟨bl,ol,rfl,hbl1,hcl⟩:=hlo (by omega);obtain ⟨bh,oh,rfl,hbh1,hch⟩:=hhi (by omega);obtain ⟨C,hC⟩:∃ C,qu N=C:=⟨_,rfl⟩;simp only [hC] at hcc hR;have HNC:=zb hnc;have HCC:=zb hcc;obtain ⟨Nn,l⟩:=N;simp only at hn hn0 hn1;subst hn;have HR:=zb hR;clear hnc hcc hv hC hlo hhi hR;by_cases h0:C=0
 ·subst h0;have hR:=HR.out;rw [if_pos rfl] at hR;have HR2:=zb hR;clear hR HR;go_enter Tryz.func35, Tryz.ntmps35;go_wp2_with (first
   | (go_at_call 46
      (with_reducible refine (HNC.out _ ((hN.below hbl).more hbl.size)).mono ?_);rintro e w5 ⟨rfl,hb5⟩;replace hbox:=zo hbox hb5;replace hwts:=zo hwts hb5;obtain ⟨hnc1,hnc2⟩:=qy hbox;have hw1:w5.cell? ⟨w.heap.size+1,0,none⟩=some (.slice (some ⟨bl,ol,none⟩) (n+1) cl):=hwts.cell (i:=0) (by omega);have hw2:w5.cell? ⟨w.heap.size+1,1,none⟩=some (.slice (some ⟨bh,oh,none⟩) (n+1) ch):=hwts.cell (i:=1) (by omega);replace hbl:=zw hbl hb5 hbl.size)
   | (go_at_call 79
      (with_reducible refine (HCC.out _ ((hN.below hbl).more hbl.size) (hT.below hbl)).mono ?_);rintro e w6 ⟨rfl,hb6⟩;replace hwts:=zo hwts hb6;have hw1:w6.cell? ⟨w.heap.size+1,0,none⟩=some (.slice (some ⟨bl,ol,none⟩) (n+1) cl):=hwts.cell (i:=0) (by omega);have hw2:w6.cell? ⟨w.heap.size+1,1,none⟩=some (.slice (some ⟨bh,oh,none⟩) (n+1) ch):=hwts.cell (i:=1) (by omega);replace hbl:=zw hbl hb6 hbl.size))
  have hl1:(1:Int)≤(n:Int)+1:=by omega
  have hcp1:=hc1;have hcp2:=hc2
  go_region
  obtain ⟨P1,hP1⟩:∃ P1,(if cl=1 then (some ⟨bl,ol,none⟩:Option Addr) else some ⟨bl,ol+2,none⟩)=P1:=⟨_,rfl⟩;obtain ⟨P2,hP2⟩:∃ P2,(if ch=1 then (some ⟨bh,oh,none⟩:Option Addr) else some ⟨bh,oh+2,none⟩)=P2:=⟨_,rfl⟩;rw [hP1,hP2];have HP1:Hid (0<n→P1=some ⟨bl,ol+2,none⟩):=zb fun h=>by rw [← hP1,if_neg (by omega)]
  have HP2:Hid (0<n→P2=some ⟨bh,oh+2,none⟩):=zb fun h=>by rw [← hP2,if_neg (by omega)]
  clear hP1 hP2;have x0:∀ W:World,(Instr.index 130 (.agg #[.slice P1 n (cl-1),.slice P2 n (ch-1)]) (.int .i64 0)).run Tryz.prog W = .ok (.slice P1 n (cl-1)) W:=fun _=>by kernel_rfl
  have x1:∀ W:World,(Instr.index 130 (.agg #[.slice P1 n (cl-1),.slice P2 n (ch-1)]) (.int .i64 1)).run Tryz.prog W = .ok (.slice P2 n (ch-1)) W:=fun _=>by kernel_rfl
  go_wp2_with fail
  go_loopw [6,44] (fun lf t wr=>∃ k:Nat,k≤2∧t = .int .i64 k∧lf = .int .i64 (16384-(T0 lo hi n k:Nat))∧T0 lo hi n k≤16384∧wr.rowIs (w.heap.size+1) 39 2 (zy #[.slice (some ⟨bl,ol,none⟩) (n+1) cl,.slice (some ⟨bh,oh,none⟩) (n+1) ch])∧Below w.heap.size w wr) (fun _ t _=>2-(intOf t).toNat)
  case atStart=>exact ⟨0,by omega,rfl,by simp [T0],by simp [T0],hwts.drew,hbl.drew⟩
  case round =>
   clear hwts hbl hw1 hw2;obtain ⟨k,hk,rfl,rfl,hle,hwts,hbl⟩:=hrel;have hk3:k=0∨k=1∨k=2:=by omega
   rcases hk3 with rfl | rfl | rfl
   ·have hT0:T0 lo hi n 0=0:=rfl;rw [hT0] at hle ⊢;rw [show ((0:Nat):Int)=0 from rfl];go_wp2_with fail
    go_loopw [6,49] (fun lf t wr=>∃ i:Nat,i≤n∧t = .int .i64 i∧lf = .int .i64 (16384-(zK lo i:Nat))∧zK lo i≤16384∧wr.rowIs (w.heap.size+1) 39 2 (zy #[.slice (some ⟨bl,ol,none⟩) (n+1) cl,.slice (some ⟨bh,oh,none⟩) (n+1) ch])∧Below w.heap.size w wr) (fun _ t _=>n-(intOf t).toNat)
    case atStart=>exact ⟨0,by omega,rfl,by simp [zK],by simp [zK];try omega,hwts,hbl⟩
    case round =>
     clear hwts hbl;obtain ⟨i,hile,rfl,rfl,hle2,hwts,hbl⟩:=hrel;by_cases hin:i<n
     ·obtain rfl:=HP1.out (by omega);have c1:w.cell? ⟨bl,ol+2+i*2,none⟩=some (.string (za (lo.getD (i+1) (0,0)).1)):=by
       have:=hcl ((i+1)*2) (by omega);rw [oR] at this;rw [← this];congr 2;omega
      have c2:w.cell? ⟨bl,ol+2+i*2+1,none⟩=some (.string (za (lo.getD (i+1) (0,0)).2)):=by
       have:=hcl ((i+1)*2+1) (by omega);rw [oS] at this;rw [← this];congr 2;omega
      replace c1:=zB hbl hbl1 c1;replace c2:=zB hbl hbl1 c2;have hsp:=hs1 (i+1);have hsuc:zK lo (i+1)=zK lo i+yR (lo.getD (i+1) (0,0)):=rfl;have hmono:zK lo (i+1)≤zK lo n:=zha _ (by omega);generalize lo.getD (i+1) (0,0)=y at *
      obtain ⟨yn,yd⟩:=y;have hq8:=yP yd hsp.2;have hln:=fun W=>zb7 W yn (by have:=hsp.1;simp only at this;omega);have hlq:=fun W=>zb7 W (qd yd) (by omega);have hnu:=fun W=>gK W yn yd;have hde:=fun W=>oV W yn yd (by have:=hsp.2;simp only at this;omega);have hb1:nd 2 yn≤1000000:=zju (by have:=hsp.1;simp only at this;omega);have hb2:nd 2 (qd yd)≤1000000:=zju (by omega);have hpb:yR (yn,yd)=nd 2 yn+nd 2 (qd yd):=rfl;rw [hpb] at hsuc;generalize nd 2 yn=B1 at *
      generalize nd 2 (qd yd)=B2 at *
      generalize qd yd=Qd at *
      generalize hS1:zK lo (i+1)=S1 at *
      have HS1:=zb hS1;clear hS1;generalize zK lo i=S0' at *
      have hw1:IntKind.i64.wrap ((B1:Int)+(B2:Int))=(B1:Int)+(B2:Int):=by rw [IntKind.wrap_i64];omega
      have hw2:IntKind.i64.wrap (16384-(S0':Int)-((B1:Int)+(B2:Int)))=16384-(S0':Int)-((B1:Int)+(B2:Int)):=by rw [IntKind.wrap_i64];omega
      have HLN:=zb hln;have HLQ:=zb hlq;have HNU:=zb hnu;have HDE:=zb hde;clear hln hlq hnu hde hsp hq8 hpb;have hi1:(0:Int)≤(i:Int):=by omega
      have hi2:(i:Int)<(n:Int):=by omega
      obtain ⟨W0,rfl⟩:∃ W0,W0=wr:=⟨wr,rfl⟩;have hq:=pN W0 yn yd 33 _ rfl;have hwt2:=hwts.alloc (.cells #[.string (za yn),.string (za yd)] 33);have hbl2:=hbl.alloc hbl.size (.cells #[.string (za yn),.string (za yd)] 33);by_cases hbig:16384<S1
      ·have HR3:Hid (R=2):=zb (by rw [HR2.out,if_pos (by omega)]);go_wp2_with fail
       replace hq:=hq.drew;replace hwt2:=hwt2.drew;replace hbl2:=hbl2.drew;obtain ⟨z1,z2⟩:=qj hq;go_region_held3 (fun w'=>w'.cell? ⟨W0.heap.size,0,none⟩=some (.string (za yn))∧w'.cell? ⟨W0.heap.size,1,none⟩=some (.string (za yd)))
        (first | exact ⟨z1,z2⟩ | go_keep)
        (first
          | (go_simp
             go_at_call 80;(with_reducible first | refine (HNU.out _).mono ?_);rintro e w9 ⟨rfl,hb9⟩;replace hq:=zo hq hb9;replace hwt2:=zo hwt2 hb9;replace hbl2:=zw hbl2 hb9 hbl2.size;obtain ⟨z1,z2⟩:=qj hq)
          | (go_simp
             go_at_call 73;(with_reducible first | refine (HDE.out _).mono ?_);rintro e w9 ⟨rfl,hb9⟩;replace hq:=zo hq hb9;replace hwt2:=zo hwt2 hb9;replace hbl2:=zw hbl2 hb9 hbl2.size;obtain ⟨z1,z2⟩:=qj hq)
          | (go_simp
             go_at_call 81;(with_reducible first | refine (HLN.out _).mono ?_ | refine (HLQ.out _).mono ?_);rintro e w9 ⟨rfl,hb9⟩;replace hq:=zo hq hb9;replace hwt2:=zo hwt2 hb9;replace hbl2:=zw hbl2 hb9 hbl2.size;obtain ⟨z1,z2⟩:=qj hq))
       all_goals
        try go_wp2
        go_ret;exact ⟨by rw [HR3.out];rfl,hbl2⟩
      ·go_wp2_with fail
       replace hq:=hq.drew;replace hwt2:=hwt2.drew;replace hbl2:=hbl2.drew;obtain ⟨z1,z2⟩:=qj hq;go_region_held3 (fun w'=>w'.cell? ⟨W0.heap.size,0,none⟩=some (.string (za yn))∧w'.cell? ⟨W0.heap.size,1,none⟩=some (.string (za yd)))
        (first | exact ⟨z1,z2⟩ | go_keep)
        (first
          | (go_simp
             go_at_call 80;(with_reducible first | refine (HNU.out _).mono ?_);rintro e w9 ⟨rfl,hb9⟩;replace hq:=zo hq hb9;replace hwt2:=zo hwt2 hb9;replace hbl2:=zw hbl2 hb9 hbl2.size;obtain ⟨z1,z2⟩:=qj hq)
          | (go_simp
             go_at_call 73;(with_reducible first | refine (HDE.out _).mono ?_);rintro e w9 ⟨rfl,hb9⟩;replace hq:=zo hq hb9;replace hwt2:=zo hwt2 hb9;replace hbl2:=zw hbl2 hb9 hbl2.size;obtain ⟨z1,z2⟩:=qj hq)
          | (go_simp
             go_at_call 81;(with_reducible first | refine (HLN.out _).mono ?_ | refine (HLQ.out _).mono ?_);rintro e w9 ⟨rfl,hb9⟩;replace hq:=zo hq hb9;replace hwt2:=zo hwt2 hb9;replace hbl2:=zw hbl2 hb9 hbl2.size;obtain ⟨z1,z2⟩:=qj hq))
       all_goals
        try go_wp2
        go_roundw
        case rel=>exact ⟨i+1,by omega,by go_num,by rw [HS1.out];simp;omega,by rw [HS1.out];omega,hwt2,hbl2⟩
        case measure=>simp [intOf];omega
     ·obtain rfl:i=n:=by omega
      go_wp2_with fail
      go_roundw
      case rel=>exact ⟨0+1,by omega,by go_num,by simp [T0],by simp [T0];omega,hwts,hbl⟩
      case measure=>simp [intOf]
   ·have hT0:T0 lo hi n 1=zK lo n:=rfl;rw [hT0] at hle ⊢;rw [show ((1:Nat):Int)=1 from rfl];go_wp2_with fail
    go_loopw [6,49] (fun lf t wr=>∃ i:Nat,i≤n∧t = .int .i64 i∧lf = .int .i64 (16384-(zK lo n+zK hi i:Nat))∧zK lo n+zK hi i≤16384∧wr.rowIs (w.heap.size+1) 39 2 (zy #[.slice (some ⟨bl,ol,none⟩) (n+1) cl,.slice (some ⟨bh,oh,none⟩) (n+1) ch])∧Below w.heap.size w wr) (fun _ t _=>n-(intOf t).toNat)
    case atStart=>exact ⟨0,by omega,rfl,by simp [zK],by simp [zK];try omega,hwts,hbl⟩
    case round =>
     clear hwts hbl;obtain ⟨i,hile,rfl,rfl,hle2,hwts,hbl⟩:=hrel;by_cases hin:i<n
     ·obtain rfl:=HP2.out (by omega);have c1:w.cell? ⟨bh,oh+2+i*2,none⟩=some (.string (za (hi.getD (i+1) (0,0)).1)):=by
       have:=hch ((i+1)*2) (by omega);rw [oR] at this;rw [← this];congr 2;omega
      have c2:w.cell? ⟨bh,oh+2+i*2+1,none⟩=some (.string (za (hi.getD (i+1) (0,0)).2)):=by
       have:=hch ((i+1)*2+1) (by omega);rw [oS] at this;rw [← this];congr 2;omega
      replace c1:=zB hbl hbh1 c1;replace c2:=zB hbl hbh1 c2;have hsp:=hs2 (i+1);have hsuc:zK hi (i+1)=zK hi i+yR (hi.getD (i+1) (0,0)):=rfl;have hmono:zK hi (i+1)≤zK hi n:=zha _ (by omega);generalize hi.getD (i+1) (0,0)=y at *
      obtain ⟨yn,yd⟩:=y;have hq8:=yP yd hsp.2;have hln:=fun W=>zb7 W yn (by have:=hsp.1;simp only at this;omega);have hlq:=fun W=>zb7 W (qd yd) (by omega);have hnu:=fun W=>gK W yn yd;have hde:=fun W=>oV W yn yd (by have:=hsp.2;simp only at this;omega);have hb1:nd 2 yn≤1000000:=zju (by have:=hsp.1;simp only at this;omega);have hb2:nd 2 (qd yd)≤1000000:=zju (by omega);have hpb:yR (yn,yd)=nd 2 yn+nd 2 (qd yd):=rfl;rw [hpb] at hsuc;generalize nd 2 yn=B1 at *
      generalize nd 2 (qd yd)=B2 at *
      generalize qd yd=Qd at *
      generalize hS1:zK hi (i+1)=S1 at *
      have HS1:=zb hS1;clear hS1;generalize zK hi i=S0' at *
      have hw1:IntKind.i64.wrap ((B1:Int)+(B2:Int))=(B1:Int)+(B2:Int):=by rw [IntKind.wrap_i64];omega
      have hw2:IntKind.i64.wrap (16384-((zK lo n:Nat)+(S0':Int))-((B1:Int)+(B2:Int)))=16384-((zK lo n:Nat)+(S0':Int))-((B1:Int)+(B2:Int)):=by rw [IntKind.wrap_i64];omega
      have HLN:=zb hln;have HLQ:=zb hlq;have HNU:=zb hnu;have HDE:=zb hde;clear hln hlq hnu hde hsp hq8 hpb;have hi1:(0:Int)≤(i:Int):=by omega
      have hi2:(i:Int)<(n:Int):=by omega
      obtain ⟨W0,rfl⟩:∃ W0,W0=wr:=⟨wr,rfl⟩;have hq:=pN W0 yn yd 33 _ rfl;have hwt2:=hwts.alloc (.cells #[.string (za yn),.string (za yd)] 33);have hbl2:=hbl.alloc hbl.size (.cells #[.string (za yn),.string (za yd)] 33);by_cases hbig:16384<zK lo n+S1
      ·have HR3:Hid (R=2):=zb (by rw [HR2.out,if_pos (by omega)]);go_wp2_with fail
       replace hq:=hq.drew;replace hwt2:=hwt2.drew;replace hbl2:=hbl2.drew;obtain ⟨z1,z2⟩:=qj hq;go_region_held3 (fun w'=>w'.cell? ⟨W0.heap.size,0,none⟩=some (.string (za yn))∧w'.cell? ⟨W0.heap.size,1,none⟩=some (.string (za yd)))
        (first | exact ⟨z1,z2⟩ | go_keep)
        (first
          | (go_simp
             go_at_call 80;(with_reducible first | refine (HNU.out _).mono ?_);rintro e w9 ⟨rfl,hb9⟩;replace hq:=zo hq hb9;replace hwt2:=zo hwt2 hb9;replace hbl2:=zw hbl2 hb9 hbl2.size;obtain ⟨z1,z2⟩:=qj hq)
          | (go_simp
             go_at_call 73;(with_reducible first | refine (HDE.out _).mono ?_);rintro e w9 ⟨rfl,hb9⟩;replace hq:=zo hq hb9;replace hwt2:=zo hwt2 hb9;replace hbl2:=zw hbl2 hb9 hbl2.size;obtain ⟨z1,z2⟩:=qj hq)
          | (go_simp
             go_at_call 81;(with_reducible first | refine (HLN.out _).mono ?_ | refine (HLQ.out _).mono ?_);rintro e w9 ⟨rfl,hb9⟩;replace hq:=zo hq hb9;replace hwt2:=zo hwt2 hb9;replace hbl2:=zw hbl2 hb9 hbl2.size;obtain ⟨z1,z2⟩:=qj hq))
       all_goals
        try go_wp2
        go_ret;exact ⟨by rw [HR3.out];rfl,hbl2⟩
      ·go_wp2_with fail
       replace hq:=hq.drew;replace hwt2:=hwt2.drew;replace hbl2:=hbl2.drew;obtain ⟨z1,z2⟩:=qj hq;go_region_held3 (fun w'=>w'.cell? ⟨W0.heap.size,0,none⟩=some (.string (za yn))∧w'.cell? ⟨W0.heap.size,1,none⟩=some (.string (za yd)))
        (first | exact ⟨z1,z2⟩ | go_keep)
        (first
          | (go_simp
             go_at_call 80;(with_reducible first | refine (HNU.out _).mono ?_);rintro e w9 ⟨rfl,hb9⟩;replace hq:=zo hq hb9;replace hwt2:=zo hwt2 hb9;replace hbl2:=zw hbl2 hb9 hbl2.size;obtain ⟨z1,z2⟩:=qj hq)
          | (go_simp
             go_at_call 73;(with_reducible first | refine (HDE.out _).mono ?_);rintro e w9 ⟨rfl,hb9⟩;replace hq:=zo hq hb9;replace hwt2:=zo hwt2 hb9;replace hbl2:=zw hbl2 hb9 hbl2.size;obtain ⟨z1,z2⟩:=qj hq)
          | (go_simp
             go_at_call 81;(with_reducible first | refine (HLN.out _).mono ?_ | refine (HLQ.out _).mono ?_);rintro e w9 ⟨rfl,hb9⟩;replace hq:=zo hq hb9;replace hwt2:=zo hwt2 hb9;replace hbl2:=zw hbl2 hb9 hbl2.size;obtain ⟨z1,z2⟩:=qj hq))
       all_goals
        try go_wp2
        go_roundw
        case rel=>exact ⟨i+1,by omega,by go_num,by rw [HS1.out];simp;omega,by rw [HS1.out];omega,hwt2,hbl2⟩
        case measure=>simp [intOf];omega
     ·obtain rfl:i=n:=by omega
      go_wp2_with fail
      go_roundw
      case rel=>exact ⟨1+1,by omega,by go_num,by simp [T0],by simp [T0];omega,hwts,hbl⟩
      case measure=>simp [intOf]
   ·have hR2:=HR2.out;have hT0:T0 lo hi n 2=zK lo n+zK hi n:=rfl;rw [hT0] at hle;rw [if_neg (by omega)] at hR2;have HR3:=zb hR2;clear hR2 hT0 hle;go_wp2_with fail
    go_ret;exact ⟨by rw [HR3.out];rfl,hbl⟩
 ·have hR:=HR.out;rw [if_neg h0] at hR;subst hR;have hb0:(R==0)=false:=beq_eq_false_iff_ne.2 h0;have hb1:(R != 0)=true:=by simp [bne,hb0]
  clear HR;go_enter Tryz.func35, Tryz.ntmps35;go_wp2_with (first
   | (go_at_call 46
      (with_reducible refine (HNC.out _ ((hN.below hbl).more hbl.size)).mono ?_);rintro e w5 ⟨rfl,hb5⟩;replace hbox:=zo hbox hb5;replace hwts:=zo hwts hb5;obtain ⟨hnc1,hnc2⟩:=qy hbox;have hw1:w5.cell? ⟨w.heap.size+1,0,none⟩=some (.slice (some ⟨bl,ol,none⟩) (n+1) cl):=hwts.cell (i:=0) (by omega);have hw2:w5.cell? ⟨w.heap.size+1,1,none⟩=some (.slice (some ⟨bh,oh,none⟩) (n+1) ch):=hwts.cell (i:=1) (by omega);replace hbl:=zw hbl hb5 hbl.size)
   | (go_at_call 79
      (with_reducible refine (HCC.out _ ((hN.below hbl).more hbl.size) (hT.below hbl)).mono ?_);rintro e w6 ⟨rfl,hb6⟩;replace hbl:=zw hbl hb6 hbl.size))
  go_ret;exact ⟨rfl,hbl⟩
end Go.Proofs.YtmhllppjcilllaaGreatDoor
end
section
open Go Go.RowKit Cs
namespace Cs
theorem oJ {p:Pr} (h:Lp p):yR p=nd 2 (qn (qp p))+nd 2 (qp p).den:=by
 unfold yR qp;rw [← h.1,h.qd]
theorem zfY {n:Nat} {lo hi:List Pr} (hl:∀ k,Lp (lo.getD k (0,0))) (hh:∀ k,Lp (hi.getD k (0,0))):∀ m,m≤n→zi4 (Wq n lo hi) m=zK lo m+zK hi m
 | 0,_=>rfl
 | m+1,h=>by
   have ih:=zfY (n:=n) hl hh m (by omega);have e1:Wq n lo hi ((m+1:Nat):Int)=qp (hi.getD (m+1) (0,0)):=by
    unfold Wq qC;rw [Int.natAbs_natCast,if_pos ⟨by omega,h⟩,if_neg (by omega)]
   have e2:Wq n lo hi (-((m+1:Nat):Int))=qp (lo.getD (m+1) (0,0)):=by
    unfold Wq qC;rw [Int.natAbs_neg,Int.natAbs_natCast,if_pos ⟨by omega,h⟩,if_pos (by omega)]
   show zi4 (Wq n lo hi) m+_+_=(zK lo m+_)+(zK hi m+_);rw [e1,e2,ih,oJ (hl (m+1)),oJ (hh (m+1))];omega
structure WtIn (n:Nat) (lo hi:List Pr):Prop where
 ll:lo.length=n+1
 lh:hi.length=n+1
 pl:∀ k,Lp (lo.getD k (0,0))
 ph:∀ k,Lp (hi.getD k (0,0))
 l0:S0 (lo.getD 0 (0,0))
 h0:S0 (hi.getD 0 (0,0))
 sl:∀ k,Sp (lo.getD k (0,0))
 sh:∀ k,Sp (hi.getD k (0,0))
theorem WtIn.ok {n:Nat} {lo hi:List Pr} (h:WtIn n lo hi) (hb:¬ 16384<zK lo n+zK hi n):WtOk n lo hi :=
 ⟨h.ll,h.lh,h.pl,h.ph,h.l0,h.h0,by rw [zfY h.pl h.ph n (zu _),jZ];omega⟩
def yc (N:Nt) (n:Nat) (lo hi:List Pr):Int:=if qu N=0 then (if 16384<zK lo n+zK hi n then 2 else 0) else qu N
theorem zfm {N:Nt} (hv:zG N=true) (h:qu N=0):qt N=true∧qJ N=true:=by
 unfold qu at h;rw [hv] at h;simp at h;cases hd:qt N
 ·rw [hd] at h;simp at h
 ·rw [hd] at h;cases hs:qJ N
  ·rw [hs] at h;simp at h
  ·exact ⟨rfl,rfl⟩
theorem zeA {N:Nt} {n:Nat} {lo hi:List Pr} (hv:zG N=true) (h:yc N n lo hi=0):qt N=true∧qJ N=true∧¬ 16384<zK lo n+zK hi n:=by
 unfold yc at h;by_cases h0:qu N=0
 ·rw [if_pos h0] at h;obtain ⟨h1,h2⟩:=zfm hv h0;refine ⟨h1,h2,fun h3=>?_⟩;rw [if_pos h3] at h;omega
 ·rw [if_neg h0] at h;exact absurd h h0
end Cs
namespace Go.Proofs.YtmhllppjcilllaaGreatDoor
theorem xh (w:World) (N:Nt) (A:Option Addr) (c cl ch n:Nat) (lo hi:List Pr) (Al Ah:Option Addr) (hN:NtAt w w.heap.size A N.l) (hv:zG N=true) (hn:N.n=(n:Int)) (hT:Tab w)
  (hin:∀ k (hk:k<N.l.length),N.l[k].ins.length≤1000000) (hW:WtIn n lo hi)
  (hlo:Rd w w.heap.size Al ((n+1)*2) (zD lo)) (hhi:Rd w w.heap.size Ah ((n+1)*2) (zD hi)) (hc1:n+1≤cl) (hc2:n+1≤ch) (S:Pr) (E:Int) (hE:E=yc N n lo hi) (hS:S=if E=0 then (RP n lo hi).sum N else (0,0)) :
  Calls Tryz.prog 16 #[qg N A c,yJ Al Ah (n+1) (n+1) cl ch] w fun e w'=>e = .returned (.tuple #[zI S.1 S.2,.int .i64 E])∧Below w.heap.size w w':=by
 have hck:=fun W hN hT hlo hhi=>zcU W N A c cl ch n lo hi Al Ah hN hv hn hT hlo hhi hW.sl hW.sh hc1 hc2 E hE;have HCK:=zb hck;have hna:=fun W h=>zcM W N A c h hv;have HNA:=zb hna;have hbox:=((yQ w N A c 24 _ rfl).alloc (.cells #[.slice Al (n+1) cl,.slice Ah (n+1) ch] 39)).alloc (.cells #[.string ⟨#[]⟩,.string ⟨#[]⟩] 33);have hwts:=(zF (w.alloc (.cells #[.int .i64 N.n,.slice A N.l.length c] 24)) #[.slice Al (n+1) cl,.slice Ah (n+1) ch] 39 (w.heap.size+1) 2 (by simp) rfl).alloc (.cells #[.string ⟨#[]⟩,.string ⟨#[]⟩] 33);have hres:=zco ((w.alloc (.cells #[.int .i64 N.n,.slice A N.l.length c] 24)).alloc (.cells #[.slice Al (n+1) cl,.slice Ah (n+1) ch] 39)) 33 (w.heap.size+1+1) (by simp);have hbl:Below w.heap.size w _:=(((zx _ _).alloc (zu _) (.cells #[.int .i64 N.n,.slice A N.l.length c] 24)).alloc (by simp) (.cells #[.slice Al (n+1) cl,.slice Ah (n+1) ch] 39)).alloc (by simp;omega) (.cells #[.string ⟨#[]⟩,.string ⟨#[]⟩] 33);clear hck hna;by_cases h0:E=0
 ·subst h0;rw [if_pos rfl] at hS;obtain ⟨z1,z2,z3⟩:=zeA hv hE.symm;have hok:=hW.ok z3;have hsm:=fun W ga go hA hlo hhi hT=>zd0 W N A c ga go n cl ch lo hi Al Ah hA hv z1 z2 hn hin hok hlo hhi hT;rw [← hS] at hsm;have HSM:=zb hsm;clear hsm hok z1 z2 z3 hS hE hW hin hv;obtain ⟨Sn,Sd⟩:=S;obtain ⟨Nn,l⟩:=N;simp only at hn;subst hn;go_enter Tryz.func16, Tryz.ntmps16;go_wp2_with (
   go_at_call 35;(with_reducible refine (HCK.out _ ((hN.below hbl).more hbl.size) (hT.below hbl) ((hlo.below hbl).more hbl.size) ((hhi.below hbl).more hbl.size)).mono ?_);rintro e w5 ⟨rfl,hb5⟩;replace hbox:=zo hbox hb5;replace hwts:=zo hwts hb5;replace hres:=zo hres hb5;replace hbl:=zw hbl hb5 hbl.size)
  replace hbox:=hbox.drew;replace hwts:=hwts.drew;replace hres:=hres.drew;replace hbl:=hbl.drew;obtain ⟨c1,c2⟩:=qy hbox;have d1:World.cell? _ ⟨w.heap.size+1,0,none⟩=some (.slice Al (n+1) cl):=hwts.cell (i:=0) (by omega);have d2:World.cell? _ ⟨w.heap.size+1,1,none⟩=some (.slice Ah (n+1) ch):=hwts.cell (i:=1) (by omega);obtain ⟨e0,e1⟩:=qj hres;have f0:=hres.frozen 0;have f1:=hres.frozen 1;have N1:Hid (w.heap.size+1+1≠w.heap.size):=zb (by omega);have N2:Hid (w.heap.size+1+1≠w.heap.size+1):=zb (by omega);go_region_held3 (fun w'=>w'.cell? ⟨w.heap.size,0,none⟩=some (.int .i64 (n:Int))∧w'.cell? ⟨w.heap.size,1,none⟩=some (.slice A l.length c)∧w'.cell? ⟨w.heap.size+1,0,none⟩=some (.slice Al (n+1) cl)∧w'.cell? ⟨w.heap.size+1,1,none⟩=some (.slice Ah (n+1) ch))
   (first | exact ⟨c1,c2,d1,d2⟩ | exact ⟨qO N1.out c1,qO N1.out c2,qO N2.out d1,qO N2.out d2⟩ | go_keep)
   (first
     | (go_simp
        go_at_call 52;(with_reducible refine (HNA.out _ ((hN.below hbl).more hbl.size)).mono ?_);rintro e w9 ⟨ga,go,rfl,hga,hAd,hb9⟩;replace hbox:=zo hbox hb9;replace hwts:=zo hwts hb9;replace hres:=zo hres hb9;replace hbl:=zw hbl hb9 hbl.size;obtain ⟨c1,c2⟩:=qy hbox;have d1:World.cell? _ ⟨w.heap.size+1,0,none⟩=some (.slice Al (n+1) cl):=hwts.cell (i:=0) (by omega);have d2:World.cell? _ ⟨w.heap.size+1,1,none⟩=some (.slice Ah (n+1) ch):=hwts.cell (i:=1) (by omega);obtain ⟨e0,e1⟩:=qj hres;have f0:=hres.frozen 0;have f1:=hres.frozen 1)
     | (go_simp
        go_at_call 53;(with_reducible refine (HSM.out _ ga go hAd ((hlo.below hbl).more hbl.size) ((hhi.below hbl).more hbl.size) (hT.below hbl)).mono ?_);rintro e w9 ⟨rfl,hb9⟩;replace hbox:=zo hbox hb9;replace hwts:=zo hwts hb9;replace hres:=zo hres hb9;replace hbl:=zw hbl hb9 hbl.size;obtain ⟨c1,c2⟩:=qy hbox;have d1:World.cell? _ ⟨w.heap.size+1,0,none⟩=some (.slice Al (n+1) cl):=hwts.cell (i:=0) (by omega);have d2:World.cell? _ ⟨w.heap.size+1,1,none⟩=some (.slice Ah (n+1) ch):=hwts.cell (i:=1) (by omega);obtain ⟨e0,e1⟩:=qj hres;have f0:=hres.frozen 0;have f1:=hres.frozen 1))
  all_goals
   try go_wp2
   exact ju rfl Sn Sd rfl rfl (oT hres Sn Sd) rfl ⟨rfl,(hbl.setCell (by simp;omega) _).setCell (by simp;omega) _⟩
 ·rw [if_neg h0] at hS;subst hS;have hb0:(E==0)=false:=beq_eq_false_iff_ne.2 h0;have hb1:(E != 0)=true:=by simp [bne,hb0]
  have hz:za 0=⟨#[]⟩:=pP;have HZ:=zb hz;clear hE hz hW hin hv;obtain ⟨Nn,l⟩:=N;simp only at hn;subst hn;go_enter Tryz.func16, Tryz.ntmps16;go_wp2_with (
   go_at_call 35;(with_reducible refine (HCK.out _ ((hN.below hbl).more hbl.size) (hT.below hbl) ((hlo.below hbl).more hbl.size) ((hhi.below hbl).more hbl.size)).mono ?_);rintro e w5 ⟨rfl,hb5⟩;replace hres:=zo hres hb5;obtain ⟨c0,c1⟩:=qj hres;have f0:=hres.frozen 0;have f1:=hres.frozen 1;replace hbl:=zw hbl hb5 hbl.size)
  have hs:=oT hres 0 0;rw [HZ.out] at hs;exact ju rfl 0 0 rfl rfl hs rfl ⟨rfl,(hbl.setCell (by simp;omega) _).setCell (by simp;omega) _⟩
end Go.Proofs.YtmhllppjcilllaaGreatDoor
end
