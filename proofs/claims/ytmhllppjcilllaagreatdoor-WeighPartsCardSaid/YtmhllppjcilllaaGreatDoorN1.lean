import Derived.Test.YtmhllppjcilllaaGreatDoorChecked
import Derived.Test.YtmhllppjcilllaaGreatDoorB1
set_option linter.unusedSimpArgs false
set_option linter.unusedVariables false
set_option maxRecDepth 100000
set_option maxHeartbeats 400000
section
open Go Go.RowKit Cs
namespace Go.Proofs.YtmhllppjcilllaaGreatDoor
abbrev zM (V:Nat):Value:=.agg #[.string (zb V)]
theorem zd4:(Tryz.prog.info? 31).map (·.size)=some 1:=by kernel_rfl
theorem zbY {fn:Func} {R:Ending→World→Prop} {a:Act} {w:World} {p:Tmp} (h:fn.results=#[.cell p 31]) {g:Nat} {t:TypeId} (s:ByteArray)
  (hp:a.tmps.getD p undef = .pointer (some ⟨g,0,none⟩)) (hrow:w.rowIs g t 1 fun _=>.string s) (hdf:a.defers=[]) (hR:R (.returned (.agg #[.string s])) w):bodyPost Tryz.prog fn R .ret a w :=
 zeK h g t 1 _ hp hrow _ Tryz.underlying31 rfl zd4 hdf hR
theorem zdY:(Tryz.prog.info? 5).map (fun i=>(i.zero,i.size,i.bytes))=some (some (.int .u8 0),1,1):=by kernel_rfl
theorem zjx:(Tryz.prog.info? 124).map (fun i=>(i.zero,i.size,i.bytes))=some (some (.int .u32 0),1,4):=by kernel_rfl
theorem zgi:(Tryz.prog.info? 124).map (·.size)=some 1:=by kernel_rfl
theorem mk_u8 (n:Nat) (h:n≤1000000000) (u:World):(Instr.makeSlice 139 (.int .i64 (n:Int)) (.int .i64 (n:Int))).run Tryz.prog u =
  .ok (.slice (some ⟨u.heap.size,0,none⟩) n n) (u.alloc (.cells (madeCells #[.int .u8 0] n) 5)):=by
 obtain ⟨i0,hi,hz0,hz1,hz2⟩:=info_parts zdY;exact run_make_row 139 5 i0 (.int .u8 0) Tryz.underlying139 hi hz0 hz1 rfl .i64 .i64 n (by rw [hz2];omega) (by omega) u
theorem zeV (n:Nat) (h:n≤1000000000) (u:World):(Instr.makeSlice 123 (.int .i64 (n:Int)) (.int .i64 (n:Int))).run Tryz.prog u =
  .ok (.slice (some ⟨u.heap.size,0,none⟩) n n) (u.alloc (.cells (madeCells #[.int .u32 0] n) 124)):=by
 obtain ⟨i0,hi,hz0,hz1,hz2⟩:=info_parts zjx;exact run_make_row 123 124 i0 (.int .u32 0) Tryz.underlying123 hi hz0 hz1 rfl .i64 .i64 n (by rw [hz2];omega) (by omega) u
theorem zft (n V:Nat) (hn:n=n8 V):strOfNums ((List.range n).map fun i=>(qj V i:Int))=zb V:=by
 subst hn;unfold strOfNums zb;rw [List.map_map];rfl
theorem conv_nat (w:World) (g n cap V:Nat) (hn:n=n8 V) (h:∀ i,i<n→w.cell? ⟨g,i,none⟩=some (.int .u8 (qj V i))) :
  (convert 139 9 (.slice (some ⟨g,0,none⟩) n cap)).run Tryz.prog w = .ok (.string (zb V)) w:=by
 rw [← zft n V hn];refine run_convert_bytes_arg (P:=Tryz.prog) w 139 5 Tryz.underlying139 Tryz.underlying5 g 0 n cap ((List.range n).map fun i=>(qj V i:Int)) (by simp)
  (fun i hi=>?_) 9 Tryz.underlying9
 rw [Nat.zero_add,h i hi];simp only [List.getD,List.getElem?_map,List.getElem?_range hi,Option.map_some,Option.getD_some]
theorem zbS (w:World) (b n cap V:Nat) (hb:n≤10000000)
  (hc0:∀ i,i<n→w.cell? ⟨b,i,none⟩=some (.int .u32 (wd V i))) (hbl:b<w.heap.size) (hV:nw V≤n) :
   Calls Tryz.prog 74 #[.slice (some ⟨b,0,none⟩) n cap] w fun e w'=>e = .returned (zM V)∧Below w.heap.size w w':=by
 have hmk:=mk_u8 (4*n) (by omega);rw [Int.natCast_mul] at hmk;simp only [Int.cast_ofNat_Int] at hmk;have HC:=zc hc0;clear hc0;go_enter Tryz.func74, Tryz.ntmps74;go_wp2;go_loopw [12] (fun t wr=>∃ k:Nat,k≤4*n∧t = .int .i64 k∧wr.rowIs w.heap.size 31 1 (fun _=>.string ⟨#[]⟩)∧wr.rowIs (w.heap.size+1) 5 (4*n) (fun j=>.int .u8 (if j<k then qj V j else 0))∧Below w.heap.size w wr) (fun t _=>4*n-(intOf t).toNat)
 case atStart =>
  exact ⟨0,by omega,rfl,(qC _ _ _ _ rfl).alloc _,oX _ _ _ _ _ (by simp) (fun i _=>by simp),((zy _ _).alloc (zv _) _).alloc (by simp) _⟩
 case round =>
  obtain ⟨k,hk,rfl,hbox,hrow,hbel⟩:=hrel;by_cases hlt:k<4*n
  ·have hc1:=hrow.cell hlt;have hf1:=hrow.frozen k;have hc2:wr.cell? ⟨b,k/4,none⟩=some (.int .u32 (wd V (k/4))):=zF hbel hbl (HC.out _ (by omega));have hwl:=qt V (k/4);go_wp2;go_roundw
   case rel =>
    refine ⟨k+1,by omega,by go_num,hbox.setOther (by simp) _,?_,hbel.setCell (by simp) _⟩;refine (hrow.set k _).congr fun i hi=>?_;have hbw:=zhN V k;split
    ·subst i;rw [if_pos (by omega),← hbw];simp
    ·by_cases h:i<k
     ·rw [if_pos h,if_pos (by omega)]
     ·rw [if_neg h,if_neg (by omega)]
   case measure=>simp [intOf];omega
  ·obtain rfl:k=4*n:=by omega
   replace hrow:=hrow.congr (g:=fun j=>.int .u8 (qj V j)) (fun i hi=>by rw [if_pos hi]);have hgt:¬ ((4*n:Nat):Int)<4*(n:Int):=by omega
   have hb1:=zQ hbox;have hb2:=hbox.frozen 0;go_wp2
   go_loop [5] (fun t=>∃ m:Nat,m≤4*n∧t = .int .i64 m∧Hid (∀ i,m≤i→qj V i=0)) (fun t=>(intOf t).toNat)
   case atStart =>
    refine ⟨4*n,by omega,by simp,fun i hi=>by8_ge V i ?_⟩;unfold nw at hV;omega
   case round =>
    obtain ⟨m,hm,rfl,hz⟩:=hrel;have fin:(m=0∨qj V (m-1)≠0)→m=n8 V:=zkx V m hz.out;have hcv:=fun hm8=>conv_nat wr (w.heap.size+1) m (4*n) V hm8 (fun i hi=>hrow.cell (by omega));rcases Nat.eq_zero_or_pos m with h0 | h0
    ·replace hcv:=hcv (fin (.inl h0));clear fin;subst h0;go_wp2;exact zbY rfl _ rfl (qV hbox _) rfl ⟨rfl,hbel.setCell (zv _) _⟩
    ·have hc:=hrow.cell (i:=m-1) (by omega);by_cases hb0:qj V (m-1)=0
     ·have hb1:((qj V (m-1):Int)==0)=true:=by simp [hb0]
      have HB:=zc hb0;clear hb0 hcv fin;go_wp2
      go_round
      case rel =>
       refine ⟨m-1,by omega,by go_num,fun i hi=>?_⟩;rcases Nat.eq_or_lt_of_le hi with e | e
       ·rw [← e];exact HB.out
       ·exact hz.out i (by omega)
      case measure=>simp [intOf];omega
     ·replace hcv:=hcv (fin (.inr hb0));clear fin;have hb1:((qj V (m-1):Int)==0)=false:=by simp;omega
      go_wp2;exact zbY rfl _ rfl (qV hbox _) rfl ⟨rfl,hbel.setCell (zv _) _⟩
theorem o6 (w:World) (V:Nat) (hV:n8 V≤10000000) :
  Calls Tryz.prog 78 #[zM V] w fun e w'=>e = .returned (.slice (some ⟨w.heap.size+1,0,none⟩) (nw V) (nw V)) ∧
   w'.rowIs (w.heap.size+1) 124 (nw V) (fun i=>.int .u32 (wd V i))∧Below w.heap.size w w':=by
 have hmk:=zeV (nw V) (by unfold nw;omega);have hs:=zbu V;have hg:=zcY V;have hle:(zb V).size≤10000000:=by omega
 show Calls _ _ #[.agg #[.string (zb V)]] _ _;generalize zb V=s at *
 have Hs:=zc hs;clear hs;have Hg:=zc hg;clear hg;have hq:((s.size:Int)+3) / 4=(nw V:Int):=by have:=Hs.out;unfold nw;omega
 have hq1:nw V≤s.size:=by have:=Hs.out;unfold nw;omega
 have hq2:s.size≤4*nw V:=by have:=Hs.out;unfold nw;omega
 go_enter Tryz.func78, Tryz.ntmps78;go_wp2;clear hq;go_loopw [14] (fun t wr=>∃ k:Nat,k≤s.size∧t = .int .i64 k∧wr.rowIs w.heap.size 31 1 (fun _=>.string s)∧wr.rowIs (w.heap.size+1) 124 (nw V) (fun j=>.int .u32 (wd (V%2^(8*k)) j))∧Below w.heap.size w wr) (fun t _=>s.size-(intOf t).toNat)
 case atStart =>
  refine ⟨0,by omega,rfl,(qC _ _ _ _ rfl).alloc _,oX _ _ _ _ _ (by simp) (fun i _=>?_),((zy _ _).alloc (zv _) _).alloc (by simp) _⟩;simp [wd,Nat.mod_one]
 case round =>
  obtain ⟨k,hk,rfl,hbox,hrow,hbel⟩:=hrel;by_cases hlt:k<s.size
  ·have hk4:k / 4<nw V:=by have:=Hs.out;unfold nw;omega
   have hc0:=zQ hbox;have hc1:=hrow.cell hk4;have hf1:=hrow.frozen (k / 4);have hwl:=qt (V%2^(8*k)) (k/4);go_wp2
   go_region
   go_wp2;have hval:bits BinOp.or IntKind.u32 (↑(wd (V%2^(8*k)) (k / 4))) ((s[k].toNat:Int)%4294967296*2^(8*(k%4))%4294967296)=((wd (V%2^(8*(k+1))) (k / 4):Nat):Int):=by
    rw [Hg.out k hlt,← word_or];have hb:=zjI V k;have e:((qj V k:Nat):Int)%4294967296*2^(8*(k%4))%4294967296=((qj V k*2^(8*(k%4))%4294967296:Nat):Int):=by
     have e0:((qj V k:Nat):Int)%4294967296=qj V k:=Int.emod_eq_of_lt (by omega) (by omega);rw [e0];simp
    rw [e,u32_or_nat _ _ hwl (Nat.mod_lt _ (by decide))]
   rw [hval];go_roundw
   case rel =>
    refine ⟨k+1,by omega,by go_num,(hbox.setOther (by simp) _).drew,?_,(hbel.setCell (by simp) _).drew⟩;refine ((hrow.set _ _).congr fun i hi=>?_).drew;split
    ·subst i;rfl
    ·rename_i h;rw [zjP V k i h]
   case measure=>simp [intOf];omega
  ·obtain rfl:k=s.size:=by omega
   go_wp2;go_ret;refine ⟨rfl,hrow.congr fun i hi=>?_,hbel⟩;rw [Hs.out,mod_n8]
theorem pY (w:World) (V:Nat) (hV:n8 V≤10000000) :
  Calls Tryz.prog 78 #[zM V] w fun e w'=>∃ g,w.heap.size≤g∧e = .returned (.slice (some ⟨g,0,none⟩) (nw V) (nw V)) ∧
   w'.rowIs g 124 (nw V) (fun i=>.int .u32 (wd V i))∧Below w.heap.size w w' :=
 (o6 w V hV).mono fun _ _ ⟨h1,h2,h3⟩=>⟨_,by omega,h1,h2,h3⟩
theorem zht (w:World) (n:Nat) (hn:n<18446744073709551616) :
  Calls Tryz.prog 34 #[.int .u64 n] w fun e w'=>e = .returned (zM n)∧Below w.heap.size w w':=by
 have H:Hid (n<18446744073709551616):=zc hn;clear hn;go_enter Tryz.func34, Tryz.ntmps34;go_wp2_with fail
 refine (zbS _ _ 2 2 n (by omega) (fun i hi=>?_) (by simp) ?_).mono ?_
 ·have e:i=0∨i=1:=by omega
  rcases e with rfl | rfl
  ·go_simp;simp [wd]
  ·go_simp;simp [wd]
 ·rw [qW];exact H.out
 rintro e w1 ⟨rfl,hb1⟩;have hbx:=zh ((qC w (.string ⟨#[]⟩) 31 _ rfl).alloc _) hb1;have hc:=zQ hbx;have hf:=hbx.frozen 0;go_wp2;exact zbY rfl _ rfl (qV hbx _) rfl ⟨rfl,((((zy _ _).alloc (zv _) _).alloc (by simp) _).trans (hb1.mono (by simp;omega))).setCell (zv _) _⟩
end Go.Proofs.YtmhllppjcilllaaGreatDoor
end
section
open Go Go.RowKit Cs
namespace Go.Proofs.YtmhllppjcilllaaGreatDoor
theorem add_ge (w:World) (a b:Nat) (ha:n8 a≤1000000) (hb:n8 b≤1000000) (hab:nw b≤nw a) :
  Calls Tryz.prog 71 #[zM a,zM b] w fun e w'=>e = .returned (zM (a+b))∧Below w.heap.size w w':=by
 go_enter Tryz.func71, Tryz.ntmps71;go_wp2_with fail
 go_region_held3 (fun w'=>w'.cell? ⟨w.heap.size,0,none⟩=some (.string (zb a))∧w'.cell? ⟨w.heap.size+1,0,none⟩=some (.string (zb b)))
  (first | go_keep | exact ⟨hk3,hk4⟩ | exact ⟨hk1,hk2⟩)
  (first
    | ((go_at_call 78;(with_reducible refine (pY _ a (by omega)).mono ?_);rintro e w1 ⟨g1,hg1,rfl,hr1,hb1⟩;simp at hg1
        have hk1:w1.cell? ⟨w.heap.size,0,none⟩=some (.string (zb a)):=(hb1.cell (p:=⟨w.heap.size,0,none⟩) (by simp;omega)).trans (by go_simp);have hk2:w1.cell? ⟨w.heap.size+1,0,none⟩=some (.string (zb b)):=(hb1.cell (p:=⟨w.heap.size+1,0,none⟩) (by simp)).trans (by go_simp)))
    | ((go_at_call 78;(with_reducible refine (pY _ b (by omega)).mono ?_);rintro e w2 ⟨g2,hg2,rfl,hr2,hb2⟩
        have hk3:w2.cell? ⟨w.heap.size,0,none⟩=some (.string (zb a)):=(hb2.cell (p:=⟨w.heap.size,0,none⟩) (by have:=hb1.size;simp at this ⊢;omega)).trans hk1;have hk4:w2.cell? ⟨w.heap.size+1,0,none⟩=some (.string (zb b)):=(hb2.cell (p:=⟨w.heap.size+1,0,none⟩) (by have:=hb1.size;simp at this ⊢;omega)).trans hk2)))
 have hz1:=hb1.size;simp at hz1;have hz2:=hb2.size;have hlt1:=hr1.lt;have hlt2:=hr2.lt;replace hr1:=zh hr1 hb2;have hbox:w2.rowIs (w.heap.size+1+1) 31 1 fun _=>.string ⟨#[]⟩:=zh (zh (qC ((w.alloc _).alloc _) _ _ _ (by simp)).drew hb1) hb2;have hbel:Below w.heap.size w w2:=((((((zy _ _).alloc (zv _) _).alloc (by simp) _).alloc (by simp;omega) _).drew).trans (hb1.mono (by simp;omega))).trans (hb2.mono (by omega));clear hb1 hb2 hk1 hk2 hk3 hk4;have hmk:=zeV (nw a+1) (by unfold nw;omega);rw [Int.natCast_succ] at hmk;have hna:nw a≤1000000:=by unfold nw;omega
 have hnb:nw b≤1000000:=by unfold nw;omega
 have hrow0:(w2.alloc (.cells (madeCells #[.int .u32 0] (nw a+1)) 124)).rowIs w2.heap.size 124 (nw a+1) (fun _=>.int .u32 0):=oX _ _ _ _ _ rfl fun _ _=>rfl;have hsrc:∀ j,j<nw b→(w2.alloc (.cells (madeCells #[.int .u32 0] (nw a+1)) 124)).cell? ⟨g2,0+j,none⟩=some (.int .u32 (wd b j)):=fun j hj=>by
  rw [Nat.zero_add];exact (hr2.alloc _).cell hj
 have Hsrc:=zc hsrc;clear hsrc;go_wp2_with ((with_reducible refine zbU rfl (.tmp 25) (.tmp 26) 123 123 rfl 124 Tryz.underlying123 zgi w2.heap.size (nw a+1) (nw a+1) (nw b) (nw b) (some ⟨g2,0,none⟩) rfl rfl 124 (nw a+1) _ hrow0 (by omega) (by omega) (fun i=>.int .u32 (wd b i)) ?c1 ?c2 ?_);rotate_left;rotate_left;intro w3 hr3 hg3)
 case c1=>exact fun _=>⟨g2,0,rfl,Hsrc.out⟩
 case c2=>exact fun _ _=>rfl
 have hr1':=js (hr1.alloc _) hg3 (by simp;omega);have hbox':=js (hbox.alloc _) hg3 (by simp;omega);have hbel':=(hbel.alloc (by omega) _).grown hg3 (by simp;omega) (fun k e=>by cases e;omega);have hr3':=hr3.congr (g:=fun i=>.int .u32 (wd b i)) fun i _=>by
  split
  ·rfl
  ·rw [jk b i (by omega)];rfl
 have hw3:w2.heap.size<w3.heap.size:=hr3.lt;clear hr1 hr2 hbox hbel hr3 hg3 hrow0 Hsrc hmk;go_loopw [8,30] (fun c t wr=>∃ k:Nat,k≤nw a∧t = .int .i64 k∧c = .int .u64 (cr a b k)∧wr.rowIs (w.heap.size+1+1) 31 1 (fun _=>.string ⟨#[]⟩) ∧
   wr.rowIs g1 124 (nw a) (fun i=>.int .u32 (wd a i))∧wr.rowIs w2.heap.size 124 (nw a+1) (fun i=>.int .u32 (if i<k then wd (a+b) i else wd b i))∧Below w.heap.size w wr)
  (fun _ t _=>nw a-(intOf t).toNat)
 case atStart=>exact ⟨0,by omega,rfl,by rw [zgC];rfl,hbox',hr1',hr3'.congr fun i _=>by simp,hbel'⟩
 case round =>
  clear hr1' hbox' hbel' hr3';obtain ⟨k,hk,rfl,rfl,hbox,hr1,hr3,hbel⟩:=hrel;have hcr:=jf a b k;by_cases hlt:k<nw a
  ·have hc1:=hr1.cell hlt;have hc3:=hr3.cell (i:=k) (by omega);rw [if_neg (Nat.lt_irrefl k)] at hc3;have hf3:=hr3.frozen k;have hwa:=qt a k;have hwb:=qt b k;go_wp2
   go_quiet (fail)
   go_wp2;have e1:((cr a b k:Int)+((wd b k:Int)+(wd a k:Int))) / 4294967296=((cr a b (k+1):Nat):Int):=by rw [← zgD];simp
   have e2:((cr a b k:Int)+((wd b k:Int)+(wd a k:Int)))%4294967296=((wd (a+b) k:Nat):Int):=by rw [← zdt];simp
   rw [e1,e2];go_roundw
   case rel =>
    refine ⟨k+1,by omega,by go_num,rfl,(qO hbox _).setOther (by simp;omega) _,(qO hr1 _).setOther (by simp;omega) _,?_,(qY hbel _).setCell (by simp;omega) _⟩;refine ((qO hr3 _).set _ _).congr fun i hi=>?_;split
    ·subst i;rw [if_pos (by omega)]
    ·by_cases h:i<k
     ·rw [if_pos h,if_pos (by omega)]
     ·rw [if_neg h,if_neg (by omega)]
   case measure=>simp [intOf];omega
  ·obtain rfl:k=nw a:=by omega
   have hc3:=hr3.cell (i:=nw a) (by omega);have hf3:=hr3.frozen (nw a);have hr4:=(hr3.set (nw a) (.int .u32 (cr a b (nw a)))).congr (g:=fun i=>.int .u32 (wd (a+b) i)) fun i hi=>by
    have hw:=zdt a b (nw a);rw [jk a _ (zv _),jk b _ hab] at hw;split
    ·subst i;congr 1;omega
    ·rw [if_pos (by omega)]
   have hbox4:=hbox.setOther (a:=⟨w2.heap.size,nw a,none⟩) (by simp;omega) (.int .u32 (cr a b (nw a)));have hbel4:=hbel.setCell (p:=⟨w2.heap.size,nw a,none⟩) (by simp;omega) (.int .u32 (cr a b (nw a)));go_wp2_with fail
   refine (zbS _ _ (nw a+1) (nw a+1) (a+b) (by omega) (fun i hi=>hr4.cell hi) hr4.lt ?_).mono ?_
   ·have:=zhz a b;unfold nw at hab ⊢;omega
   rintro e w5 ⟨rfl,hb5⟩;have hbx:=zh hbox4 hb5;have hc:=zQ hbx;have hf:=hbx.frozen 0;go_wp2;exact zbY rfl _ rfl (qV hbx _) rfl ⟨rfl,(hbel4.trans (hb5.mono (by have:=hbel4.size;omega))).setCell (by simp;omega) _⟩
theorem add_lt (w:World) (a b:Nat) (ha:n8 a≤1000000) (hb:n8 b≤1000000) (hab':nw a<nw b) :
  Calls Tryz.prog 71 #[zM a,zM b] w fun e w'=>e = .returned (zM (a+b))∧Below w.heap.size w w':=by
 go_enter Tryz.func71, Tryz.ntmps71;go_wp2_with fail
 go_region_held3 (fun w'=>w'.cell? ⟨w.heap.size,0,none⟩=some (.string (zb a))∧w'.cell? ⟨w.heap.size+1,0,none⟩=some (.string (zb b)))
  (first | go_keep | exact ⟨hk3,hk4⟩ | exact ⟨hk1,hk2⟩)
  (first
    | ((go_at_call 78;(with_reducible refine (pY _ a (by omega)).mono ?_);rintro e w1 ⟨g1,hg1,rfl,hr1,hb1⟩;simp at hg1
        have hk1:w1.cell? ⟨w.heap.size,0,none⟩=some (.string (zb a)):=(hb1.cell (p:=⟨w.heap.size,0,none⟩) (by simp;omega)).trans (by go_simp);have hk2:w1.cell? ⟨w.heap.size+1,0,none⟩=some (.string (zb b)):=(hb1.cell (p:=⟨w.heap.size+1,0,none⟩) (by simp)).trans (by go_simp)))
    | ((go_at_call 78;(with_reducible refine (pY _ b (by omega)).mono ?_);rintro e w2 ⟨g2,hg2,rfl,hr2,hb2⟩
        have hk3:w2.cell? ⟨w.heap.size,0,none⟩=some (.string (zb a)):=(hb2.cell (p:=⟨w.heap.size,0,none⟩) (by have:=hb1.size;simp at this ⊢;omega)).trans hk1;have hk4:w2.cell? ⟨w.heap.size+1,0,none⟩=some (.string (zb b)):=(hb2.cell (p:=⟨w.heap.size+1,0,none⟩) (by have:=hb1.size;simp at this ⊢;omega)).trans hk2)))
 have hz1:=hb1.size;simp at hz1;have hz2:=hb2.size;have hlt1:=hr1.lt;have hlt2:=hr2.lt;replace hr1:=zh hr1 hb2;have hbox:w2.rowIs (w.heap.size+1+1) 31 1 fun _=>.string ⟨#[]⟩:=zh (zh (qC ((w.alloc _).alloc _) _ _ _ (by simp)).drew hb1) hb2;have hbel:Below w.heap.size w w2:=((((((zy _ _).alloc (zv _) _).alloc (by simp) _).alloc (by simp;omega) _).drew).trans (hb1.mono (by simp;omega))).trans (hb2.mono (by omega));clear hb1 hb2 hk1 hk2 hk3 hk4;have hab:nw a≤nw b:=by omega
 have hmk:=zeV (nw b+1) (by unfold nw;omega);rw [Int.natCast_succ] at hmk;have hnb:nw b≤1000000:=by unfold nw;omega
 have hna:nw a≤1000000:=by unfold nw;omega
 have hrow0:(w2.alloc (.cells (madeCells #[.int .u32 0] (nw b+1)) 124)).rowIs w2.heap.size 124 (nw b+1) (fun _=>.int .u32 0):=oX _ _ _ _ _ rfl fun _ _=>rfl;have hsrc:∀ j,j<nw a→(w2.alloc (.cells (madeCells #[.int .u32 0] (nw b+1)) 124)).cell? ⟨g1,0+j,none⟩=some (.int .u32 (wd a j)):=fun j hj=>by
  rw [Nat.zero_add];exact (hr1.alloc _).cell hj
 have Hsrc:=zc hsrc;clear hsrc;go_wp2_with ((with_reducible refine zbU rfl (.tmp 25) (.tmp 26) 123 123 rfl 124 Tryz.underlying123 zgi w2.heap.size (nw b+1) (nw b+1) (nw a) (nw a) (some ⟨g1,0,none⟩) rfl rfl 124 (nw b+1) _ hrow0 (by omega) (by omega) (fun i=>.int .u32 (wd a i)) ?c1 ?c2 ?_);rotate_left;rotate_left;intro w3 hr3 hg3)
 case c1=>exact fun _=>⟨g1,0,rfl,Hsrc.out⟩
 case c2=>exact fun _ _=>rfl
 have hr2':=js (hr2.alloc _) hg3 (by simp;omega);have hbox':=js (hbox.alloc _) hg3 (by simp;omega);have hbel':=(hbel.alloc (by omega) _).grown hg3 (by simp;omega) (fun k e=>by cases e;omega);have hr3':=hr3.congr (g:=fun i=>.int .u32 (wd a i)) fun i _=>by
  split
  ·rfl
  ·rw [jk a i (by omega)];rfl
 have hw3:w2.heap.size<w3.heap.size:=hr3.lt;clear hr1 hr2 hbox hbel hr3 hg3 hrow0 Hsrc hmk;go_loopw [8,30] (fun c t wr=>∃ k:Nat,k≤nw b∧t = .int .i64 k∧c = .int .u64 (cr b a k)∧wr.rowIs (w.heap.size+1+1) 31 1 (fun _=>.string ⟨#[]⟩) ∧
   wr.rowIs g2 124 (nw b) (fun i=>.int .u32 (wd b i))∧wr.rowIs w2.heap.size 124 (nw b+1) (fun i=>.int .u32 (if i<k then wd (b+a) i else wd a i))∧Below w.heap.size w wr)
  (fun _ t _=>nw b-(intOf t).toNat)
 case atStart=>exact ⟨0,by omega,rfl,by rw [zgC];rfl,hbox',hr2',hr3'.congr fun i _=>by simp,hbel'⟩
 case round =>
  clear hr2' hbox' hbel' hr3';obtain ⟨k,hk,rfl,rfl,hbox,hr2,hr3,hbel⟩:=hrel;have hcr:=jf b a k;by_cases hlt:k<nw b
  ·have hc1:=hr2.cell hlt;have hc3:=hr3.cell (i:=k) (by omega);rw [if_neg (Nat.lt_irrefl k)] at hc3;have hf3:=hr3.frozen k;have hwa:=qt b k;have hwb:=qt a k;go_wp2
   go_quiet (fail)
   go_wp2;have e1:((cr b a k:Int)+((wd a k:Int)+(wd b k:Int))) / 4294967296=((cr b a (k+1):Nat):Int):=by rw [← zgD];simp
   have e2:((cr b a k:Int)+((wd a k:Int)+(wd b k:Int)))%4294967296=((wd (b+a) k:Nat):Int):=by rw [← zdt];simp
   rw [e1,e2];go_roundw
   case rel =>
    refine ⟨k+1,by omega,by go_num,rfl,(qO hbox _).setOther (by simp;omega) _,(qO hr2 _).setOther (by simp;omega) _,?_,(qY hbel _).setCell (by simp;omega) _⟩;refine ((qO hr3 _).set _ _).congr fun i hi=>?_;split
    ·subst i;rw [if_pos (by omega)]
    ·by_cases h:i<k
     ·rw [if_pos h,if_pos (by omega)]
     ·rw [if_neg h,if_neg (by omega)]
   case measure=>simp [intOf];omega
  ·obtain rfl:k=nw b:=by omega
   have hc3:=hr3.cell (i:=nw b) (by omega);have hf3:=hr3.frozen (nw b);have hr4:=(hr3.set (nw b) (.int .u32 (cr b a (nw b)))).congr (g:=fun i=>.int .u32 (wd (b+a) i)) fun i hi=>by
    have hw:=zdt b a (nw b);rw [jk b _ (zv _),jk a _ hab] at hw;split
    ·subst i;congr 1;omega
    ·rw [if_pos (by omega)]
   have hbox4:=hbox.setOther (a:=⟨w2.heap.size,nw b,none⟩) (by simp;omega) (.int .u32 (cr b a (nw b)));have hbel4:=hbel.setCell (p:=⟨w2.heap.size,nw b,none⟩) (by simp;omega) (.int .u32 (cr b a (nw b)));go_wp2_with fail
   refine (zbS _ _ (nw b+1) (nw b+1) (b+a) (by omega) (fun i hi=>hr4.cell hi) hr4.lt ?_).mono ?_
   ·have:=zhz b a;unfold nw at hab ⊢;omega
   rintro e w5 ⟨rfl,hb5⟩;have hbx:=zh hbox4 hb5;have hc:=zQ hbx;have hf:=hbx.frozen 0;go_wp2;exact zbY rfl _ rfl (qV hbx _) rfl ⟨by rw [Nat.add_comm],(hbel4.trans (hb5.mono (by have:=hbel4.size;omega))).setCell (by simp;omega) _⟩
theorem oL (w:World) (a b:Nat) (ha:n8 a≤1000000) (hb:n8 b≤1000000) :
  Calls Tryz.prog 71 #[zM a,zM b] w fun e w'=>e = .returned (zM (a+b))∧Below w.heap.size w w':=by
 rcases Nat.lt_or_ge (nw a) (nw b) with h | h
 ·exact add_lt w a b ha hb h
 ·exact add_ge w a b ha hb h
end Go.Proofs.YtmhllppjcilllaaGreatDoor
end
