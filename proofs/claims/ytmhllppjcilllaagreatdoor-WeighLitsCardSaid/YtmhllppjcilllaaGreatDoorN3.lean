import Derived.Test.YtmhllppjcilllaaGreatDoorDv
import Derived.Test.YtmhllppjcilllaaGreatDoorQ2
import Derived.Maps.AppendAt
import Derived.Deep.DeepAppendRoom
import Derived.ArgAppend
import Derived.Test.YtmhllppjcilllaaGreatDoorN1
import Derived.Test.YtmhllppjcilllaaGreatDoorNr
import Derived.Lib.Builder
import Derived.Lib.AppendStr
import Derived.Lib.UnsafeStr
import Derived.Laws.Externs
import Derived.Test.YtmhllppjcilllaaGreatDoorM1
set_option linter.unusedSimpArgs false
set_option linter.unusedVariables false
section
open Go Go.RowKit Cs
namespace Go.Proofs.YtmhllppjcilllaaGreatDoor
theorem zjn {W:World} {base:Nat} {e:TypeId} {g n m cap:Nat} {xs ys:List Value} (h:W.ownsRow base e 2 (.slice (some ⟨g,0,none⟩) m cap) m (xs++ys)) (hx:xs.length=n*2) (hnm:n≤m):W.ownsRow base e 2 (.slice (some ⟨g,0,none⟩) n cap) n xs:=by
 obtain ⟨hl,h2⟩:=h;refine ⟨hx,Or.inr ?_⟩;rcases h2 with ⟨h,_⟩ | ⟨g',cap',cur,he,hb,hg,hc,hm,hs,ht⟩
 ·cases h
 ·simp only [Value.slice.injEq,Option.some.injEq,Addr.mk.injEq,true_and,and_true] at he;obtain ⟨rfl,rfl⟩:=he;refine ⟨g,cap,cur,rfl,hb,hg,by omega,hm,hs,?_⟩;have:=congrArg (List.take (n*2)) ht;rw [List.take_take,Nat.min_eq_left (by omega),← hx,List.take_left] at this;rw [← hx];exact this
theorem oD (W:World) (base:Nat) (v1:Value) (k:Nat) (xs:List Value) (hown:W.ownsRow base 33 2 v1 k xs) (hbase:base≤W.heap.size) (g:Nat) (p:Pr) (hr:W.rowIs g 33 2 (qI p.1 p.2)) (hk:k≤1000) :
  ∃ v' W',(Builtin.append_ #[37, 37] 37 #[v1,.slice (some ⟨g,0,none⟩) 1 1]).run Tryz.prog W = .ok v' W'∧W'.ownsRow base 33 2 v' (k+1) (xs++[.string (za p.1),.string (za p.2)])∧W'.ownsRow base 33 2 v1 k xs∧W.grownBy W' v1.ownBlock∧(v'.ownBlock=v1.ownBlock∨v'.ownBlock=some W.heap.size):=by
 obtain ⟨i0,hi0,hz0,hz1,hz2⟩:=info_parts zg2;obtain ⟨c1,c2⟩:=qj hr;have hnews:∀ j u,([.string (za p.1),.string (za p.2)]:List Value)[j]?=some u→W.cell? ((⟨g,0,none⟩:Addr).add j)=some u:=fun j u h=>by
  match j,h with
  | 0,h=>cases h;exact c1
  | 1,h=>cases h;exact c2
 have hone:∀ u∈([.string (za p.1),.string (za p.2)]:List Value),u.oneCell'=true:=fun u hu=>by
  simp at hu;rcases hu with rfl | rfl <;> rfl
 obtain ⟨v',W',hrun,r1,r2,_,r4⟩:=run_append_own_at (P:=Tryz.prog) (w:=W) base 37 37 33 i0 (.agg #[.string ⟨#[]⟩,.string ⟨#[]⟩]) 2 32 Tryz.underlying37 hi0 hz0 hz1 hz2 rfl (by decide) v1 k xs hown ⟨g,0,none⟩ 1 1 [.string (za p.1),.string (za p.2)] rfl hnews hone (by unfold maxLen;omega) (by omega) hbase;refine ⟨v',W',hrun,r1,?_,r2,r4⟩;have hlen:=hown.1;have hown':=hown;rcases hown.2 with ⟨rfl,rfl⟩ | ⟨g1,cap,cur,rfl,hb,hg,hc,hm,hs,ht⟩
 ·obtain rfl:xs=[]:=List.eq_nil_of_length_eq_zero (by omega);exact World.ownsRow_nil W' base _ _
 ·rcases Nat.lt_or_ge cap (k+1) with hfull | hroom
  ·obtain ⟨v2,W2,hrun2,_,s2⟩:=run_append_arg_grows (P:=Tryz.prog) (w:=W) 37 37 33 i0 (.agg #[.string ⟨#[]⟩,.string ⟨#[]⟩]) 2 32 Tryz.underlying37 hi0 hz0 hz1 hz2 rfl (by decide) ⟨g1,0,none⟩ k cap xs hlen (fun j u hj=>by
    have hj2:j<xs.length:=(List.getElem?_eq_some_iff.1 hj).1;rw [← ht,List.getElem?_take,if_pos (by omega)] at hj;have hadd:(⟨g1,0,none⟩:Addr).add j=⟨g1,j,none⟩:=by unfold Addr.add;split <;> simp_all
    rw [hadd];rw [Array.getElem?_toList] at hj;have hsz:j<cur.size:=by omega
    have e:W.cell? ⟨g1,j,none⟩=cur[j]?:=by simp [World.cell?,hg]
    rw [e];exact hj) ⟨g,0,none⟩ 1 1 [.string (za p.1),.string (za p.2)] rfl hnews hfull (by unfold maxLen;omega) (by omega)
   rw [hrun] at hrun2;simp only [Result.ok.injEq] at hrun2;obtain ⟨rfl,rfl⟩:=hrun2;exact hown'.kept s2 (Or.inr (by simp [Value.ownBlock]))
  ·obtain ⟨W2,hrun2,s1,_⟩:=run_append_own_spare (P:=Tryz.prog) (w:=W) base 37 37 33 i0 2 Tryz.underlying37 hi0 hz1 g1 k cap xs hown' ⟨g,0,none⟩ 1 1 [.string (za p.1),.string (za p.2)] rfl hnews hone hroom;rw [hrun] at hrun2;simp only [Result.ok.injEq] at hrun2;obtain ⟨rfl,rfl⟩:=hrun2;exact zjn s1 hlen (by omega)
end Go.Proofs.YtmhllppjcilllaaGreatDoor
end
section
set_option maxRecDepth 100000
set_option maxHeartbeats 1000000
section
open Go Go.RowKit Cs
namespace Go.Proofs.YtmhllppjcilllaaGreatDoor
theorem ziN:(Tryz.prog.info? 143).map (·.size)=some 2:=by kernel_rfl
theorem lies_bld:liesAt Tryz.prog Tryz.prog.depth 143 (2 / Tryz.prog.cellsOf 143) 0 143 1=true:=by kernel_rfl
theorem cells_u8:Tryz.prog.cellsOf 5=1:=by kernel_rfl
theorem zfx (b:Nat) (w:World) (h0:w.cell? ⟨b,0,none⟩=some (.pointer (some ⟨b,0,none⟩))) :
  Calls Tryz.prog 135 #[.pointer (some ⟨b,0,none⟩)] w fun e w'=>e = .returned (.tuple #[])∧w'=w:=by
 obtain ⟨j,hj,_⟩:=Option.map_eq_some_iff.1 ziN;go_enter Tryz.func135, Tryz.ntmps135;go_wp2;rw [Lib.run_neq_ptr_same w _ Tryz.underlying141 hj];go_wp2
 go_end0;exact ⟨rfl,rfl⟩
theorem zfi (b:Nat) (w:World) (h0:w.cell? ⟨b,0,none⟩=some (.pointer none)) (hsh:w.shape? b=some (143,2)) (hfz:w.frozen? ⟨b,0,none⟩=false) :
  Calls Tryz.prog 135 #[.pointer (some ⟨b,0,none⟩)] w fun e w'=>e = .returned (.tuple #[])∧w'=w.setCell ⟨b,0,none⟩ (.pointer (some ⟨b,0,none⟩)):=by
 obtain ⟨j,hj,hjs⟩:=Option.map_eq_some_iff.1 ziN;go_enter Tryz.func135, Tryz.ntmps135;go_wp2;rw [Lib.run_to_unsafe w ⟨b,0,none⟩ Tryz.underlying141 Tryz.underlying203 hj (by rw [hjs];decide) hsh (Nat.zero_lt_succ 1)];simp only [Result.andThen];rw [Oper.upon_value];go_wp2;rw [run_callFunc_extern Tryz.func165 (by kernel_rfl) (by kernel_rfl) (by kernel_rfl) (e:=Extern.AbiNoEscape.same) (by kernel_rfl)];rw [Lib.run_noEscape];simp only [Result.andThen];rw [Oper.upon_value];go_wp2;rw [Lib.run_from_unsafe w ⟨b,0,none⟩ Tryz.underlying203 Tryz.underlying141 hj hsh lies_bld];simp only [Result.andThen];rw [Oper.upon_value];go_wp2
 go_end0;exact ⟨rfl,rfl⟩
theorem zgE (B b:Nat) (bs:List Value) (w:World) (h:Lib.IsBuilder 143 5 B b bs w) :
  Calls Tryz.prog 135 #[.pointer (some ⟨b,0,none⟩)] w fun e w'=>e = .returned (.tuple #[])∧(Lib.BuilderAt 143 5 B b (.pointer (some ⟨b,0,none⟩)) bs w'∧Below B w w'):=by
 rcases h with h | h
 ·refine (zfi b w h.cell0 h.shape h.frozen0).mono ?_;rintro e w' ⟨rfl,rfl⟩;exact ⟨rfl,h.used _,(Below.refl B w).setCell (p:=⟨b,0,none⟩) h.1 _⟩
 ·refine (zfx b w h.cell0).mono ?_;rintro e w' ⟨rfl,rfl⟩;exact ⟨rfl,h,Below.refl B _⟩
theorem zgc (B b:Nat) (bs:List Value) (c:Int) (w:World) (h:Lib.IsBuilder 143 5 B b bs w) (hlen:bs.length+1≤140737488355328) (hBw:B≤w.heap.size) :
  Calls Tryz.prog 90 #[.pointer (some ⟨b,0,none⟩),.int .u8 c] w fun e w'=>e = .returned .nilIface∧(Lib.BuilderAt 143 5 B b (.pointer (some ⟨b,0,none⟩)) (bs++[.int .u8 c]) w'∧Below B w w'):=by
 obtain ⟨i0,hi,hz0,hz1,hz2⟩:=info_parts zea;go_enter Tryz.func90, Tryz.ntmps90;go_wp2_with (go_at_call 135;refine (zgE B b bs _ h).mono ?_)
 rintro e w1 ⟨rfl,h1,hb1⟩;obtain ⟨hB,v,hbk,hown,hne⟩:=h1;have c0:w1.cell? ⟨b,0,none⟩=some (.pointer (some ⟨b,0,none⟩)):=by rw [Lib.cell_of_heap hbk];rfl
 have c1:w1.cell? ⟨b,1,none⟩=some v:=by rw [Lib.cell_of_heap hbk];rfl
 go_wp2_with (at_builtin;refine wpList_append_own _ rfl _ _ 139 rfl B 5 i0 (.int .u8 0) 1 1 Tryz.underlying139 hi hz0 hz1 hz2 rfl (by decide) _ _ _ rfl (hown.alloc _) ⟨w1.heap.size,0,none⟩ 1 1 [.int .u8 c] rfl rfl ?c1 ?c2 ?c3 ?c4 ?c5 ?_)
 case c1 =>
  intro j u hj
  match j,hj with
  | 0,hj=>simp at hj;subst hj;simp [Addr.add]
 case c2=>intro u hu;simp at hu;subst hu;rfl
 case c3=>unfold maxLen;omega
 case c4=>omega
 case c5=>have:=hb1.size;simp;omega
 intro v' w2 hown' hgrow _;have hlt:b<w1.heap.size:=by
  rcases Nat.lt_or_ge b w1.heap.size with h' | h'
  ·exact h'
  ·simp [Array.getElem?_eq_none h'] at hbk
 have hb2:w2.heap[b]?=some (.cells #[.pointer (some ⟨b,0,none⟩),v] 143 (0,0)):=by
  rw [hgrow.block b (by simp;omega) (fun e=>hne e.symm),Lib.alloc_old w1 _ b hlt];exact hbk
 have d0:w2.cell? ⟨b,0,none⟩=some (.pointer (some ⟨b,0,none⟩)):=by rw [Lib.cell_of_heap hb2];rfl
 have d1:w2.cell? ⟨b,1,none⟩=some v:=by rw [Lib.cell_of_heap hb2];rfl
 have f1:w2.frozen? ⟨b,1,none⟩=false:=Lib.frozen_of_heap hb2 1;obtain ⟨g,cap,rfl⟩:∃ g cap,v' = .slice (some ⟨g,0,none⟩) (bs.length+1) cap:=by
  rcases hown'.2 with ⟨_,h0⟩ | ⟨g,cap,cur,hv,_⟩
  ·omega
  ·exact ⟨g,cap,hv⟩
 go_wp2;go_ret;refine ⟨rfl,?_,?_⟩
 ·exact Lib.BuilderAt.put (T:=143) (e:=5) hB hb2 (bs':=bs++[.int .u8 c]) (by simpa using hown') (by decide)
 ·exact ((hb1.alloc (by have:=hb1.size;omega) _).grown hgrow (by have:=hb1.size;simp;omega) (fun k hk=>(hown.lt k hk).1)).setCell (p:=⟨b,1,none⟩) hB _
theorem zgI (B b:Nat) (l:List UInt8) (w:World) (h:Lib.IsBuilder 143 5 B b (Lib.byteCells l) w) (h0:l≠[]) :
  Calls Tryz.prog 91 #[.pointer (some ⟨b,0,none⟩)] w fun e w'=>e = .returned (.string ⟨l.toArray⟩)∧Below B w w':=by
 obtain ⟨p,hB,v,hbk,hown,hne⟩:∃ p,Lib.BuilderAt 143 5 B b p (Lib.byteCells l) w:=by
  rcases h with h | h
  ·exact ⟨_,h⟩
  ·exact ⟨_,h⟩
 have hl0:l.length≠0:=by simpa using h0
 rw [Lib.byteCells_length] at hown;obtain ⟨g,cap,cur,rfl,hbg,hg,hnc,hcm,hcs,htake⟩:∃ g cap cur,v = .slice (some ⟨g,0,none⟩) l.length cap∧B≤g∧w.heap[g]?=some (.cells cur 5 (0,0))∧l.length≤cap∧cap≤maxLen∧cur.size=cap*1∧cur.toList.take (l.length*1)=Lib.byteCells l:=by
  rcases hown.2 with ⟨_,hz⟩ | ⟨g,cap,cur,hv,r⟩
  ·exact absurd hz hl0
  ·exact ⟨g,cap,cur,hv,r⟩
 have c1:w.drew.cell? ⟨b,1,none⟩=some (.slice (some ⟨g,0,none⟩) l.length cap):=by
  have:w.drew.heap[b]?=some (.cells #[p,.slice (some ⟨g,0,none⟩) l.length cap] 143 (0,0)):=hbk;rw [Lib.cell_of_heap this];rfl
 have hSD:(Builtin.unsafeSliceData_ #[139] 178 #[.slice (some ⟨g,0,none⟩) l.length cap]).run Tryz.prog w.drew = .ok (.pointer (some ⟨g,0,none⟩)) w.drew :=
  Lib.run_unsafeSliceData_row _ _ _ _ _ _ (by omega)
 have hUS:(Builtin.unsafeString_ #[178, 3] 9 #[.pointer (some ⟨g,0,none⟩),.int .i64 l.length]).run Tryz.prog w.drew = .ok (.string ⟨l.toArray⟩) (w.drew.freeze ⟨g,0,none⟩ l.length):=by
  refine Lib.run_unsafeString_row w.drew 178 3 9 5 Tryz.underlying178 cells_u8 g cur.size (by have hg':w.drew.heap[g]?=some (.cells cur 5 (0,0)):=hg;simp [World.shape?,hg']) l h0 (by omega) (by unfold maxLen at hcm;omega) ?_;intro j x hx;have:=hown.cells (g:=g) rfl j (.int .u8 x.toNat) (by simp [Lib.byteCells,hx]);exact this
 go_enter Tryz.func91, Tryz.ntmps91;go_wp2
 go_region
 all_goals (go_wp2;go_ret;exact ⟨rfl,Lib.below_freeze (Below.drew (Below.refl B w)) (p:=⟨g,0,none⟩) hbg _⟩)
end Go.Proofs.YtmhllppjcilllaaGreatDoor
end
section
open Go Go.RowKit Cs
namespace Go.Proofs.YtmhllppjcilllaaGreatDoor
def dgs (V n:Nat):List Value:=(List.range n).map fun i=>.int .u8 ((48+dg 10 V i:Nat):Int)
theorem dgs_succ (V n:Nat):dgs V (n+1)=dgs V n++[.int .u8 ((48+dg 10 V n:Nat):Int)]:=by simp [dgs,List.range_succ]
theorem dgs_get (V n j:Nat) (h:j<n):(dgs V n)[j]?=some (.int .u8 ((48+dg 10 V j:Nat):Int)):=by simp [dgs,h]
theorem xp (w:World):Calls Tryz.prog 47 #[zN 0] w fun e w'=>e = .returned (.string (zc 0))∧Below w.heap.size w w':=by
 rw [pU];go_enter Tryz.func47, Tryz.ntmps47;go_wp2_with (go_at_call 78;refine (pT _ 0 (by rw [oW];omega)).mono ?_;rintro e w1 ⟨g,hg,rfl,hr,hb⟩)
 have h0:nw 0=0:=by rw [oX]
 rw [h0];have hbel:Below w.heap.size w w1:=((zx _ _).alloc (zu _) _).trans (hb.mono (by simp));clear h0 hr hb;go_wp2
 go_loop [3,4] (fun l o=>l = .slice (some ⟨g,0,none⟩) 0 0∧o = .slice none 0 0) (fun _ _=>0)
 case atStart=>exact ⟨rfl,rfl⟩
 case round =>
  obtain ⟨rfl,rfl⟩:=hrel;go_wp2
  go_loop [8] (fun i=>i = .int .i64 (-1)) (fun _=>0)
  case atStart=>rfl
  case round =>
   subst hrel;go_wp2;go_ret;exact ⟨rfl,hbel.alloc hbel.size _⟩
theorem text_pos (w:World) (V:Nat) (hV0:0<V) (hV:n8 V≤1000000):Calls Tryz.prog 47 #[zN V] w fun e w'=>e = .returned (.string (zc V))∧Below w.heap.size w w':=by
 obtain ⟨i0,hi,hz0,hz1,hz2⟩:=info_parts zea;have hnw:nw V≤1000000:=by unfold nw;omega
 have hnd:nd 10 V≤10000000:=by have:=ziq V _ hV;omega
 go_enter Tryz.func47, Tryz.ntmps47;go_wp2_with (go_at_call 78;refine (pT _ V (by omega)).mono ?_;rintro e w1 ⟨g,hg,rfl,hr,hb⟩)
 simp at hg;have hbel:Below w.heap.size w w1:=((zx _ _).alloc (zu _) _).trans (hb.mono (by simp));have hlg:=hr.lt;have hle:=hbel.size;clear hb;go_wp2;go_loopw [3,4] (fun l out wr=>∃ (r m cnt:Nat),l = .slice (some ⟨g,0,none⟩) m (nw V)∧m≤nw V∧Hid (m=nw (lf V r))∧cnt≤20000000∧Hid ((m≠0→cnt=9*r)∧(m=0→cnt=nd 10 V)) ∧
   wr.rowIs g 124 (nw V) (fun j=>.int .u32 (wd (lf V r) j))∧wr.ownsRow w1.heap.size 5 1 out cnt (dgs V cnt)∧Below w.heap.size w wr∧w1.heap.size≤wr.heap.size)
  (fun _ out _=>30000000-gY out)
 case atStart =>
  refine ⟨0,nw V,0,rfl,zu _,by rw [gW];rfl,by omega,⟨fun _=>by omega,fun h=>?_⟩,hr.congr fun j _=>by rw [gW],World.ownsRow_nil _ _ _ _,hbel,zu _⟩;rw [oX] at h;omega
 case round =>
  clear hr hbel;obtain ⟨r,m,cnt,rfl,hm,Hm,hcnt,Hcnt,hrow,hown,hbel,hsz⟩:=hrel;rcases Nat.eq_zero_or_pos m with h0 | h0
  ·obtain rfl:cnt=nd 10 V:=Hcnt.out.2 h0;subst h0;have hdn:=decN_pos V hV0;have hn0:0<nd 10 V:=by unfold zz at hdn;omega
   have HD:=zb hdn;clear hdn;obtain ⟨go',cap,rfl,hgo1,hgo2⟩:=yX hown hn0;have hbd:=Lib.fresh_isBuilder 143 5 wr;have hown':=hown.alloc (.cells #[.pointer none,.slice none 0 0] 143);have hbel':=hbel.alloc hbel.size (.cells #[.pointer none,.slice none 0 0] 143);have hnz:((nd 10 V:Int)==0)=false:=beq_eq_false_iff_ne.2 (by omega);go_wp2;go_loopw [8] (fun i wr'=>∃ k:Nat,k≤nd 10 V∧i = .int .i64 ((k:Int)-1)∧Lib.IsBuilder 143 5 wr.heap.size wr.heap.size (Lib.byteCells (pG V (nd 10 V-k))) wr' ∧
     wr'.ownsRow w1.heap.size 5 1 (.slice (some ⟨go',0,none⟩) (nd 10 V) cap) (nd 10 V) (dgs V (nd 10 V))∧Below w.heap.size w wr'∧wr.heap.size≤wr'.heap.size)
    (fun i _=>(intOf i+1).toNat)
   case atStart =>
    refine ⟨nd 10 V,zu _,rfl,?_,hown',hbel',by simp⟩;rw [Nat.sub_self];exact hbd
   case round =>
    clear hown' hbel' hown hbel hbd;rename_i wo;obtain ⟨k,hk,rfl,hbd,hown,hbel,hsz3⟩:=hrel;rcases Nat.eq_zero_or_pos k with h0 | h0
    ·subst h0;rw [Nat.sub_zero] at hbd;have hne:pG V (nd 10 V)≠[]:=fun e=>by
      have:=zdw V (nd 10 V);rw [e] at this;simp at this;omega
     have HNE:=zb hne;clear hne;go_wp2_with (go_at_call 91;refine (zgI _ _ _ _ hbd HNE.out).mono ?_;rintro e w5 ⟨rfl,hb5⟩)
     go_ret;refine ⟨?_,hbel.trans (hb5.mono (by have:=hbel.size;omega))⟩;unfold zc;rw [HD.out];rfl
    ·have hc0:=zez hown (dgs_get V (nd 10 V) (k-1) (by omega));have hd10:=yS V (k-1);obtain ⟨d,hd⟩:∃ d,d=48+dg 10 V (k-1):=⟨_,rfl⟩;rw [← hd] at hc0;have hd256:d<256:=by omega
     have HDD:=zb hd;clear hd hd10;have i0:(0:Int)≤(k:Int)-1:=by omega
     have i1:(k:Int)-1<(nd 10 V:Int):=by omega
     go_wp2_with (go_at_call 90;refine (zgc _ _ _ _ _ hbd (by rw [Lib.byteCells_length,zdw];omega) (by omega)).mono ?_;rintro e w5 ⟨rfl,hbd5,hb5⟩)
     have hown5:=zkj hown hb5 (fun g e=>by cases e;exact hgo2);have hbel5:=hbel.trans (hb5.mono (by have:=hbel.size;omega));go_roundw
     case rel =>
      refine ⟨k-1,by omega,by go_num,.inr ?_,hown5,hbel5,Nat.le_trans hsz3 hb5.size⟩;have e1:nd 10 V-(k-1)=nd 10 V-k+1:=by omega
      have e2:zz V-1-(nd 10 V-k)=k-1:=by rw [HD.out];omega
      have e3:Lib.byteCells [UInt8.ofNat (48+dg 10 V (k-1))]=[.int .u8 d]:=by
       rw [← HDD.out];simp [Lib.byteCells,UInt8.toNat_ofNat'];omega
      rw [e1,pm,Lib.byteCells_append,e2,e3];exact hbd5
     case measure=>simp [intOf];omega
  ·go_wp2_with fail
   refine (zfB _ g m (nw V) (nw V) (lf V r) 1000000000 (by omega) hm (by rw [← Hm.out];omega) (by decide) (by decide) hrow).mono ?_;rintro e w2 ⟨rfl,hrow2,hgr2,hsz2⟩;have hown2:=hown.kept hgr2 (.inr fun e=>by have:=(hown.lt g e).1;omega);have hbel2:=zdf hbel hgr2 hbel.size (by omega);replace hrow2:=hrow2.congr (g:=fun j=>.int .u32 (wd (lf V (r+1)) j)) fun j _=>by rw [zg0]
   have Hsz2:=zb hsz2;clear hsz2 hrow hown hbel hgr2;have hP:lf V r%1000000000<1000000000:=Nat.mod_lt _ (by decide);generalize hPe:lf V r%1000000000=P at *
   have HP:=zb hPe;clear hPe;have hwx:nw (lf V (r+1))≤m:=by rw [Hm.out,← zg0];exact zdZ (Nat.div_le_self _ _)
   go_wp2
   go_loop [3] (fun l=>∃ m':Nat,l = .slice (some ⟨g,0,none⟩) m' (nw V)∧m'≤m∧nw (lf V (r+1))≤m') (fun l=>gY l)
   case atStart=>exact ⟨m,rfl,zu _,hwx⟩
   case round =>
    clear hwx;obtain ⟨m',rfl,hm1,hm2⟩:=hrel;by_cases hz:0<m'∧wd (lf V (r+1)) (m' - 1)=0
    ·obtain ⟨hz1',hz2'⟩:=hz;have hc:=hrow2.cell (i:=m' - 1) (by omega);have hb1:((wd (lf V (r+1)) (m' - 1):Int)==0)=true:=beq_iff_eq.2 (by omega);have hm3:nw (lf V (r+1))≤m' - 1:=by
      rcases Nat.eq_or_lt_of_le hm2 with h | h
      ·have hX:0<lf V (r+1):=by
        rcases Nat.eq_zero_or_pos (lf V (r+1)) with h' | h'
        ·rw [h',(oX 0).2 rfl] at h;omega
        ·exact h'
       have ht:=jJ 4294967296 (lf V (r+1)) (by decide) hX;have hn:nd 4294967296 (lf V (r+1))=nw (lf V (r+1)):=by
        apply nd_eq 4294967296 (by decide)
        ·rw [zcV];exact (q8 _ _).1 (zu _)
        ·right;rw [zcV];rcases Nat.lt_or_ge (lf V (r+1)) (2^(32*(nw (lf V (r+1))-1))) with h' | h'
         ·have:=(q8 (nw (lf V (r+1))-1) _).2 h';omega
         ·exact h'
       rw [hn,← wd_eq,h] at ht;omega
      ·omega
     have HZ:=zb hz2';clear hz2';go_wp2
     go_round
     case rel=>exact ⟨m' - 1,by first | rfl | simp,by omega,hm3⟩
     case measure=>simp [gY];omega
    ·have Hm':Hid (m'=nw (lf V (r+1))):=zjJ _ m' hm2 (by omega);have hcell:0<m'→w2.cell? ⟨g,m' - 1,none⟩=some (.int .u32 (wd (lf V (r+1)) (m' - 1))):=fun _=>hrow2.cell (by omega);have hb1:0<m'→((wd (lf V (r+1)) (m' - 1):Int)==0)=false:=fun h=>beq_eq_false_iff_ne.2 (by omega);have HC:=zb hcell;clear hcell;have HB:=zb hb1;clear hb1 hz;have hr9:9*r<nd 10 V:=(zeW V (9*r)).1 (by
      rcases Nat.eq_zero_or_pos (lf V r) with h | h
      ·have:=Hm.out;rw [h,(oX 0).2 rfl] at this;omega
      ·exact h)
     have hR0:0<lf V r:=by
      rcases Nat.eq_zero_or_pos (lf V r) with h | h
      ·have:=Hm.out;rw [h,(oX 0).2 rfl] at this;omega
      ·exact h
     have hc9:cnt=9*r:=Hcnt.out.1 (by omega);rw [hc9] at hown2;have HC9:=zb hc9;clear hc9;have hl9:=zin hown2;have HL9:=zb hl9;clear hl9;rcases Nat.lt_or_ge 0 m' with h1 | h1
     all_goals (first | (have hc:=HC.out h1;have hb:=HB.out h1;go_wp2;clear hc hb) | go_wp2)
     all_goals
      clear HC HB;go_loopw [4,5,6] (fun out p k wr'=>∃ (kk q:Nat),k = .int .i64 kk∧kk≤9∧p = .int .u32 q∧q<1000000000∧Hid (q=P / 10^kk)∧Hid (m'=0→kk≤nd 10 (lf V r)) ∧
        wr'.rowIs g 124 (nw V) (fun j=>.int .u32 (wd (lf V (r+1)) j))∧wr'.ownsRow w1.heap.size 5 1 out (9*r+kk) (dgs V (9*r+kk))∧Below w.heap.size w wr'∧w1.heap.size≤wr'.heap.size)
       (fun _ _ k _=>9-(intOf k).toNat)
      case atStart=>exact ⟨0,P,rfl,by omega,rfl,hP,by show _=_;simp,fun _=>Nat.zero_le _,hrow2,hown2,hbel2,by rw [Hsz2.out];exact hsz⟩
      case round =>
       clear hrow2 hown2 hbel2;obtain ⟨kk,q,rfl,hk9,rfl,hqlt,Hq,Hk,hrow,hown,hbel,hsz3⟩:=hrel;by_cases h9:kk<9
       ·by_cases hp:0<m'∨0<q
        ·try have hq:0<q:=by omega
         have hd:q%10=dg 10 V (9*r+kk):=by rw [Hq.out,← HP.out,lf_dg V r kk h9]
         have Hd:=zb hd;clear hd;go_wp2_with (at_builtin;refine wpList_append_own _ rfl _ _ 139 rfl w1.heap.size 5 i0 (.int .u8 0) 1 1 Tryz.underlying139 hi hz0 hz1 hz2 rfl (by decide) _ _ _ rfl (hown.alloc _) ⟨wr.heap.size,0,none⟩ 1 1 [.int .u8 (48+(q:Int)%10)] rfl rfl pM zeU (by unfold maxLen;omega) (by omega) (by simp;omega) ?_;intro v' w3 hown3 hgr3 _)
         have hlt0:∀ k,u4.ownBlock=some k→w1.heap.size≤k:=fun k hk=>(hown.lt k hk).1;have hrow3:=jl (hrow.alloc _) hgr3 (fun e=>by have:=hlt0 g e.symm;omega);have hbel3:=(hbel.alloc hbel.size _).grown hgr3 (by simp;omega) (fun k e=>by have:=hlt0 k e;omega);have hsz4:w1.heap.size≤w3.heap.size:=by have:=hgr3.size;simp at this;omega
         have e1:(48:Int)+(q:Int)%10=((48+dg 10 V (9*r+kk):Nat):Int):=by rw [← Hd.out];simp
         have e2:(q:Int) / 10=((q / 10:Nat):Int):=by simp
         rw [e1,← dgs_succ] at hown3;go_wp2;rw [e2];go_roundw
         case rel =>
          refine ⟨kk+1,q / 10,by go_num,by omega,rfl,by omega,?_,fun h=>?_,hrow3,hown3,hbel3,hsz4⟩
          ·show _=_;rw [Hq.out,Nat.div_div_eq_div_mul,Nat.pow_succ]
          ·have hq0:0<q:=by omega
           rw [Hm'.out,oX] at h;exact xq V r kk h (by rw [HP.out,← Hq.out];exact hq0)
         case measure=>simp [intOf];omega
        ·first
         | (exfalso;omega)
         | (have hq:q≤0:=by omega
            have hfin:Hid (9*r+kk=nd 10 V):=by
             have h0':lf V (r+1)=0:=by rw [← oX,← Hm'.out];omega
             exact ziI V r kk hR0 h0' (Hk.out (by omega)) (.inr (by rw [HP.out,← Hq.out];omega))
            have hk0:0<kk:=by
             rcases Nat.eq_zero_or_pos kk with h | h
             ·have:=hfin.out;omega
             ·exact h
            go_wp2;go_roundw
            case rel=>exact ⟨r+1,m',9*r+kk,rfl,by omega,Hm',by omega,⟨fun h=>by omega,fun _=>hfin.out⟩,hrow,hown,hbel,hsz3⟩
            case measure=>rw [zin hown,HL9.out];omega)
       ·have hk9':kk=9:=by omega
        have hfin:Hid ((m'≠0→9*r+kk=9*(r+1))∧(m'=0→9*r+kk=nd 10 V)):=by
         refine ⟨fun _=>by omega,fun h=>?_⟩;have hk':=Hk.out h;rw [Hm'.out,oX] at h;exact ziI V r kk hR0 h hk' (.inl hk9')
        have hk10:9≤kk:=by omega
        clear hk9';go_wp2;go_roundw
        case rel=>exact ⟨r+1,m',9*r+kk,rfl,by omega,Hm',by omega,hfin,hrow,hown,hbel,hsz3⟩
        case measure=>rw [zin hown,HL9.out];omega
theorem ziJ (w:World) (V:Nat) (hV:n8 V≤1000000):Calls Tryz.prog 47 #[zN V] w fun e w'=>e = .returned (.string (zc V))∧Below w.heap.size w w':=by
 rcases Nat.eq_zero_or_pos V with h | h
 ·subst h;exact xp w
 ·exact text_pos w V h hV
end Go.Proofs.YtmhllppjcilllaaGreatDoor
end
end
