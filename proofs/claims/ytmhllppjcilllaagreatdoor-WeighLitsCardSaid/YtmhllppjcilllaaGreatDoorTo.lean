import Derived.Test.YtmhllppjcilllaaGreatDoorTn
import Derived.Lib.SliceRun
import Derived.Deep.CutRange
import Derived.WalkMore
set_option linter.unusedSimpArgs false
set_option linter.unusedVariables false
set_option maxRecDepth 100000
set_option maxHeartbeats 1000000
open Go Go.RowKit Cs Go.Sort Go.Lib
namespace Go.Proofs.YtmhllppjcilllaaGreatDoor
def ClnH (w:World) (l:List Int) (e:Ending) (w':World):Prop:=RowKit.Below w.heap.size w w'∧∃ g c,e = .returned (.slice (some ⟨g,0,none⟩) l.length c)∧w.heap.size≤g∧g<w'.heap.size∧l.length≤c ∧
  Holds (fun x:VL=>Value.int .i64 x.1) w' g 0 (l.map jM).toArray
theorem ownsIs {w:World} {n base:Nat} {e:TypeId} {v:Value} {xs:List Value} (h:w.ownsRow base e 1 v n xs):(n=0∧v = .slice none 0 0) ∨
  ∃ g cap f,v = .slice (some ⟨g,0,none⟩) n cap∧base≤g∧g<w.heap.size∧n≤cap∧w.rowIs g e cap f∧∀ i,i<n→xs[i]?=some (f i):=by
 obtain ⟨h1,h2⟩:=h;rcases h2 with ⟨hv,h0⟩ | ⟨g,cap,cur,rfl,hb,hg,hc,_,hs,ht⟩
 ·exact Or.inl ⟨h0,hv⟩
 ·have hlt:g<w.heap.size:=by
   rcases Nat.lt_or_ge g w.heap.size with h' | h'
   ·exact h'
   ·rw [Array.getElem?_eq_none h'] at hg;cases hg
  refine Or.inr ⟨g,cap,fun i=>cur.getD i undef,rfl,hb,hlt,hc,⟨cur,hg,by omega,fun i hi=>?_⟩,fun i hi=>?_⟩
  ·show cur[i]?=some (cur.getD i undef);rw [Array.getD_eq_getD_getElem?,Array.getElem?_eq_getElem (by omega)];rfl
  ·rw [← ht,List.getElem?_take,if_pos (by omega)];show cur.toList[i]?=some (cur.getD i undef);rw [Array.getD_eq_getD_getElem?];rw [Array.getElem?_toList,Array.getElem?_eq_getElem (by omega)];rfl
theorem zi3 {w w':World} {l:List Int} {v:Value} (h:w'.ownsRow w.heap.size 3 1 v l.length (l.map (Value.int .i64))) (hb:RowKit.Below w.heap.size w w') (hv:∀ x∈l,x.natAbs≤128) (h0:0<l.length):ClnH w l (.returned v) w':=by
 rcases ownsIs h with ⟨h9,_⟩ | ⟨g,cap,f,rfl,hg,hl,hc,hrow,hf⟩
 ·omega
 refine ⟨hb,g,cap,rfl,hg,hl,hc,fun j hj=>?_⟩;have hj2:j<l.length:=by simpa using hj
 refine ⟨?_,hrow.frozen _⟩;rw [Nat.zero_add,hrow.cell (i:=j) (by omega)];have e1:=hf j (by omega);rw [List.getElem?_map,List.getElem?_eq_getElem hj2] at e1;rw [getElem!_pos _ j hj,List.getElem_toArray,List.getElem_map];show some (f j)=some (.int .i64 (jM l[j]).1);rw [zgf (hv _ (List.getElem_mem hj2))];exact e1.symm
theorem zdN (w:World) (A:Option Addr) (c:Nat) (xs:List Int) (hlen:xs.length≤1000000000000) (hA:Rd w w.heap.size A xs.length (zO xs)) :
  Calls Tryz.prog 150 #[.slice A xs.length c] w fun e w'=>∃ v,e = .returned v∧w'.ownsRow w.heap.size 3 1 v xs.length (xs.map (Value.int .i64))∧RowKit.Below w.heap.size w w':=by
 obtain ⟨i0,hi,hz0,hz1,hz2⟩:=info_parts zdc;have q22:∀ (w:World) (a:Option Addr) (n c n' c':Nat),(binOp .eql 26 (.slice a n c) (.slice none n' c')).run Tryz.prog w = .ok (.bool a.isNone) w:=fun w a n c n' c'=>Lib.run_eql_slice_nil w _ _ a n c n' c' Tryz.underlying26;cases A with
 | none =>
   have h0:xs.length=0:=by
    rcases Nat.eq_zero_or_pos xs.length with h | h
    ·exact h
    ·obtain ⟨b,o,e,_⟩:=hA h;cases e
   obtain rfl:xs=[]:=List.eq_nil_of_length_eq_zero h0;clear h0 hA hlen;go_enter Tryz.func150, Tryz.ntmps150;go_wp2;go_ret;exact ⟨_,rfl,World.ownsRow_nil _ _ _ _,zx _ _⟩
 | some a =>
   have HA:=zb hA;clear hA;go_enter Tryz.func150, Tryz.ntmps150;go_wp2_with (at_builtin;refine wpList_append_own _ rfl _ _ 26 rfl w.heap.size 3 i0 (.int .i64 0) 1 8 Tryz.underlying26 hi hz0 hz1 hz2 rfl (by decide) _ _ _ rfl (World.ownsRow_made w #[] 0 (zu _) (Nat.zero_le _) rfl) a xs.length c (xs.map (Value.int .i64)) rfl ?qc1 ?qc2 ?qc3 ?qc4 ?qc5 ?qc6 ?_)
   case qc1=>simp
   case qc2 =>
    intro j u hj;have hjn:j<xs.length:=by
     have:=(List.getElem?_eq_some_iff.1 hj).1;simpa using this
    obtain ⟨b,o,e,hB,hc⟩:=HA.out (by omega);obtain rfl:a=⟨b,o,none⟩:=by injection e
    rw [Addr.add_lit];refine Lib.cell?_alloc_some _ ?_;rw [hc j hjn];have e:(xs.map (Value.int .i64))[j]?=some (zO xs j):=by simp [zO,List.getD,List.getElem?_eq_getElem hjn]
    rw [e] at hj;exact hj
   case qc3=>intro u hu;obtain ⟨x,_,rfl⟩:=List.mem_map.1 hu;rfl
   case qc4=>unfold maxLen;omega
   case qc5=>omega
   case qc6=>simp
   intro v' w1 hown hgrow hnil;go_wp2;go_ret;exact ⟨_,rfl,by simpa using hown,((Below.refl _ w).alloc (zu _) _).grown hgrow (by simp) (by intro k hk;simp [Value.ownBlock] at hk;omega)⟩
theorem zgH (w:World) (A:Option Addr) (c:Nat) (xs:List Int) (hlen:xs.length≤1000000000000) (hA:Rd w w.heap.size A xs.length (zO xs)) (hv:∀ x∈xs,x.natAbs≤128) (h0:0<xs.length) :
  Calls Tryz.prog 150 #[.slice A xs.length c] w (ClnH w xs):=(zdN w A c xs hlen hA).mono fun e w' ⟨v,he,hown,hb⟩=>by
 subst he;exact zi3 hown hb hv h0
theorem pB {α:Type} [Inhabited α] {enc:α→Value} {B:Nat} {w0 w:World} {g n:Nat} {d:Array α} {os:Array Obj} (h:RowKit.Below B w0 w) (hg:B≤g) (hgl:g<w.heap.size):RowKit.Below B w0 (sortWorld enc w g 0 n d os):=by
 have h1:RowKit.Below B w0 (putRow enc (Sort.ahead w n) g 0 d):=⟨h.os,h.tape,h.output,by simpa [putRow,mapBlock,Sort.ahead] using h.size,fun k hk=>by
  rw [← h.block k hk];simp [putRow,mapBlock,Sort.ahead,Array.getElem?_modify,show g≠k by omega]⟩
 exact ⟨h1.os,h1.tape,h1.output,Nat.le_trans h1.size (by unfold sortWorld;rw [size_grow];omega),fun k hk=>(heap_grow_old _ _ (by simp [putRow,mapBlock,Sort.ahead];omega)).trans (h1.block k hk)⟩
def OrdR (w:World) (l:List Int) (e:Ending) (w':World):Prop:=∃ A' c' C,e = .returned (.slice A' C.length c')∧Rd w' w'.heap.size A' C.length (zO C)∧RowKit.Below w.heap.size w w'∧C.Pairwise (fun x y=>qH x<qH y)∧(∀ x,x∈C↔x∈l)∧C.length≤l.length
theorem eqVL (P:Program) (T:TypeId):EqlAt P T (fun x:VL=>Value.int .i64 x.1) (fun x y=>decide (x=y)) :=
 ⟨fun x y w=>((EqlAt.intD P T .i64).1 x.1 y.1 w).trans (by simp only [Subtype.ext_iff]),fun op a b x y w=>(EqlAt.intD P T .i64).2 op a b x.1 y.1 w⟩
theorem neVL (P:Program) (T:TypeId):NeqAt P T (fun x:VL=>Value.int .i64 x.1) (fun x y=>decide (x=y)) :=
 ⟨fun x y w=>((NeqAt.intD P T .i64).1 x.1 y.1 w).trans (by simp only [Subtype.ext_iff]),fun op a b x y w=>(NeqAt.intD P T .i64).2 op a b x.1 y.1 w⟩
theorem zfk (d:Array VL):(compactUpTo d d.size).length≤d.size:=by
 unfold compactUpTo;rw [List.length_map];exact Nat.le_trans (List.length_filter_le _ _) (by simp)
theorem zi1 (w:World) (g c:Nat) (d:Array VL) (hH:Holds (fun x:VL=>Value.int .i64 x.1) w g 0 d) (hg:g<w.heap.size) (hsz:d.size≤1000000) (hc:d.size≤c) :
  Calls Tryz.prog 154 #[.slice (some ⟨g,0,none⟩) d.size c] w fun e w'=>e = .returned (.slice (some ⟨g,0,none⟩) (compactUpTo d d.size).length c)∧Rd w' w'.heap.size (some ⟨g,0,none⟩) (compactUpTo d d.size).length (zO ((compactUpTo d d.size).map (·.1))) ∧
   ∀ (B:Nat) (w0:World),RowKit.Below B w0 w→B≤g→RowKit.Below B w0 w':=by
 have hcl:=zfk d;have:=AnyE.slices_Compact compL (fun x:VL=>Value.int .i64 x.1) (fun _=>rfl) (eqVL _ _) (neVL _ _) (⟨0,by decide⟩:VL) (fun w=>by kernel_rfl) g 0 c d w hH (by omega) hc;refine (show Calls Tryz.prog 154 _ _ _ from this).mono ?_;rintro e w' ⟨rfl,q,rfl⟩;have hs:(compactUpTo d d.size++List.replicate (d.size-(compactUpTo d d.size).length) (⟨0,by decide⟩:VL)).toArray.size=d.size:=by
  simp;omega
 have h2:=holds_putRow (fun x:VL=>Value.int .i64 x.1) (Sort.ahead w q) g 0 d _ hH hs;refine ⟨rfl,fun hn=>⟨g,0,rfl,by simpa using hg,fun i hi=>?_⟩,fun B w0 hb hB=>⟨hb.os,hb.tape,hb.output,by simpa [putRow,mapBlock,Sort.ahead] using hb.size,fun k hk=>by
  rw [← hb.block k hk];simp [putRow,mapBlock,Sort.ahead,Array.getElem?_modify,show g≠k by omega]⟩⟩
 have h3:=(h2 i (by rw [hs];omega)).1;rw [h3,getElem!_pos _ i (by rw [hs];omega),List.getElem_toArray,List.getElem_append_left hi];unfold zO;rw [List.getD_eq_getElem?_getD,List.getElem?_map,List.getElem?_eq_getElem hi];rfl
theorem zi2 (w:World) (A:Option Addr) (c:Nat):Calls Tryz.prog 154 #[.slice A 0 c] w fun e w'=>e = .returned (.slice A 0 c)∧w'=w:=by
 go_enter Tryz.func154, Tryz.ntmps154;go_wp2;go_ret;exact ⟨rfl,rfl⟩
theorem xU (w:World) (A:Option Addr) (c:Nat) (l:List Int) (hl:l.length≤1000000) (hv:∀ x∈l,x.natAbs≤128) (hA:Rd w w.heap.size A l.length (zO l)) :
  Calls Tryz.prog 112 #[.slice A l.length c] w (OrdR w l):=by
 rcases Nat.eq_zero_or_pos l.length with h0 | h0
 ·obtain rfl:l=[]:=List.eq_nil_of_length_eq_zero h0;have hc:Calls Tryz.prog 150 #[.slice A 0 c] w fun e w'=>∃ A1 c1,e = .returned (.slice A1 0 c1)∧RowKit.Below w.heap.size w w':=(zdN w A c [] (by simp) hA).mono fun e w' ⟨v,he,hown,hb⟩=>by
   subst he;rcases ownsIs hown with ⟨_,rfl⟩ | ⟨g,cap,f,rfl,_⟩
   ·exact ⟨none,0,rfl,hb⟩
   ·exact ⟨_,cap,rfl,hb⟩
  simp only [List.length_nil];have HC:=zb hc;have hsr:=fun (p:Option Addr) (cap:Nat) (V:World)=>AnyF.slices_SortFunc_none { sortL with } p cap (.func (.func 152) #[] #[]) V;have HS:=zb (show ∀ (p:Option Addr) (cap:Nat) (V:World),Calls Tryz.prog 151 #[.slice p 0 cap,.func (.func 152) #[] #[]] V fun e w'=>e = .returned (.tuple #[])∧w'=V from hsr);clear hc hsr hA hl hv h0;go_enter Tryz.func112, Tryz.ntmps112;go_wp2_with (first
   | (go_at_call 150;(with_reducible refine HC.out.mono ?_);rintro e w1 ⟨A1,c1,rfl,hb⟩)
   | (go_at_call 151;(with_reducible refine (HS.out _ _ _).mono ?_);rintro e w2 ⟨rfl,rfl⟩)
   | (go_at_call 154;(with_reducible refine (zi2 _ _ _).mono ?_);rintro e w3 ⟨rfl,rfl⟩))
  all_goals
   go_ret;exact ⟨A1,c1,[],rfl,fun h=>absurd h (by simp),hb,List.Pairwise.nil,fun x=>Iff.rfl,zu _⟩
 ·have hc:=zgH w A c l (by omega) hA hv h0;have eg:∀ args w,(callFunc 152 args).run Tryz.prog w = .ok (.enter 152 args) w:=enters_of Tryz.func152 (by kernel_rfl) rfl;have hsz:(l.map jM).toArray.size=l.length:=by simp
  have hsr:∀ (g cap:Nat) (V:World),Holds (fun x:VL=>Value.int .i64 x.1) V g 0 (l.map jM).toArray→g<V.heap.size→Calls Tryz.prog 151 #[.slice (some ⟨g,0,none⟩) l.length cap,.func (.func 152) #[] #[]] V fun e w' =>
    e = .returned (.tuple #[])∧∃ d' n os,PermIn 0 (l.map jM).toArray.size (l.map jM).toArray d'∧SortedIn (ltOf fun x y:VL=>zdI x.1 y.1) 0 (l.map jM).toArray.size d'∧w'=sortWorld (fun x:VL=>Value.int .i64 x.1) V g 0 n d' os:=fun g cap V hH hg=>by
   have:=Any.slices_SortFunc sortL (fun x:VL=>Value.int .i64 x.1) (fun _=>rfl) (fun x y:VL=>zdI x.1 y.1) swoL 152 #[] g 0 cap (l.map jM).toArray V eg (CmpReads.lays fun _ _ _ _ x y=>zkp _ x y) hH hg (by rw [hsz];omega);rw [hsz] at this;rw [hsz];exact this
  have HC:=zb hc;have HS:=zb hsr;clear hc hsr eg hA;obtain ⟨m,hm⟩:∃ m,l.length=m:=⟨_,rfl⟩;have HM:=zb hm;have hcp:∀ (g c:Nat) (d:Array VL) (V:World),d.size=m→Holds (fun x:VL=>Value.int .i64 x.1) V g 0 d→g<V.heap.size→m≤c→Calls Tryz.prog 154 #[.slice (some ⟨g,0,none⟩) m c] V fun e w'=>e = .returned (.slice (some ⟨g,0,none⟩) (compactUpTo d d.size).length c)∧Rd w' w'.heap.size (some ⟨g,0,none⟩) (compactUpTo d d.size).length (zO ((compactUpTo d d.size).map (·.1))) ∧
   ∀ (B:Nat) (w0:World),RowKit.Below B w0 V→B≤g→RowKit.Below B w0 w':=fun g c d V e1 e2 e3 e4=>by
   subst e1;exact zi1 V g c d e2 e3 (by omega) e4
  have HP:=zb hcp;have HSZ:=zb hsz;have HV:=zb hv;unfold ClnH at HC;rw [hm] at HC HS ⊢;clear hm hcp hl h0 hsz hv;go_enter Tryz.func112, Tryz.ntmps112;go_wp2_with (first
   | (go_at_call 150;(with_reducible refine HC.out.mono ?_);rintro e w1 ⟨hb,g,c1,rfl,hg,hgl,hc1,hH⟩)
   | (go_at_call 151;(with_reducible refine (HS.out _ _ _ hH hgl).mono ?_);rintro e w2 ⟨rfl,d',n,os,hp,hs,hw2⟩;have HW2:=zb hw2;clear hw2;have hH2:Hid (Holds (fun x:VL=>Value.int .i64 x.1) w2 g 0 d'):=zb (by rw [HW2.out];exact holds_sortWorld _ _ _ _ _ _ _ _ hgl hH hp.1);have hl2:g<w2.heap.size:=by rw [HW2.out];exact lt_sortWorld _ _ _ _ _ _ _ hgl)
   | (go_at_call 154;refine (HP.out _ _ _ _ (hp.1.trans (HSZ.out.trans HM.out)) hH2.out hl2 hc1).mono ?_;rintro e w3 ⟨rfl,hr3,hb3⟩))
  all_goals
   go_ret;have hd:d'.size=(l.map jM).toArray.size:=hp.1;have hlen:((compactUpTo d' d'.size).map (·.1)).length=(compactUpTo d' d'.size).length:=List.length_map ..;refine ⟨_,_,(compactUpTo d' d'.size).map (·.1),by rw [hlen];rfl,by rw [hlen];exact hr3,hb3 _ _ (by rw [HW2.out];exact pB hb hg hgl) hg,zfy fun i j hij hj=>?_,fun x=>?_,?_⟩
   ·have:=hs i j (Nat.zero_le _) hij (by rw [← hd];exact hj);unfold ltOf at this;rw [decide_eq_false_iff_not,zgG] at this;omega
   ·have hpm:∀ y:VL,y∈d'.toList↔y∈(l.map jM):=fun y=>by
     have h1:=hp.2.2.mem_iff (a:=y);have hlm:(l.map jM).length≤d'.size:=by rw [hd];simp
     simp [← hd] at h1;rw [List.take_of_length_le hlm] at h1;simpa using h1
    rw [List.mem_map];constructor
    ·rintro ⟨y,hy,rfl⟩;rw [zfj,hpm,List.mem_map] at hy;obtain ⟨z,hz,rfl⟩:=hy;rw [zgf (HV.out z hz)];exact hz
    ·intro hx;exact ⟨jM x,by rw [zfj,hpm];exact List.mem_map_of_mem hx,zgf (HV.out x hx)⟩
   ·rw [hlen];have h9:d'.size=l.length:=hd.trans HSZ.out;have:=zfk d';omega
def oppB (C:List Int):Bool:=(List.range C.length).any fun i=>decide (i+1<C.length)&&decide (C.getD (i+1) 0 = -C.getD i 0)
theorem zjq (C:List Int):oppB C=true↔∃ i,i+1<C.length∧C.getD (i+1) 0 = -C.getD i 0:=by
 unfold oppB;rw [List.any_eq_true];constructor
 ·rintro ⟨i,_,h⟩;rw [Bool.and_eq_true,decide_eq_true_eq,decide_eq_true_eq] at h;exact ⟨i,h⟩
 ·rintro ⟨i,h1,h2⟩;exact ⟨i,List.mem_range.2 (by omega),by rw [Bool.and_eq_true,decide_eq_true_eq,decide_eq_true_eq];exact ⟨h1,h2⟩⟩
theorem zhr (w:World) (A:Option Addr) (c:Nat) (C:List Int) (hC:C.length≤1000000) (hv:∀ i,(C.getD i 0).natAbs≤128) (hA:Rd w w.heap.size A C.length (zO C)) :
  Calls Tryz.prog 113 #[.slice A C.length c] w fun e w'=>e = .returned (.bool (oppB C))∧RowKit.Below w.heap.size w w':=by
 have hop:=zjq C;obtain ⟨r,hr⟩:∃ r,oppB C=r:=⟨_,rfl⟩;rw [hr] at hop ⊢;obtain ⟨m,hm⟩:∃ m,C.length=m:=⟨_,rfl⟩;rw [hm] at hC hA hop ⊢;have HOP:=zb hop;clear hm hr hop;go_enter Tryz.func113, Tryz.ntmps113;go_wp2_with fail
 go_loopw [3] (fun t wr=>∃ k:Nat,(k=0∨k+1≤m)∧t = .int .i64 ((k:Int)+1)∧(∀ j,j<k→C.getD (j+1) 0≠-C.getD j 0)∧RowKit.Below w.heap.size w wr) (fun t _=>m+1-(intOf t).toNat)
 case atStart=>exact ⟨0,Or.inl rfl,rfl,fun _ h=>absurd h (by omega),zx _ _⟩
 case round =>
  obtain ⟨k,hk,rfl,hne,hb⟩:=hrel;have HNE:=zb hne;clear hne;by_cases hlt:k+1<m
  ·obtain ⟨b,o,rfl,hbA,hcA⟩:=hA (by omega);have e1:=hcA (k+1) hlt;have e2:=hcA k (by omega);unfold zO at e1 e2;have hv1:=hv k;obtain ⟨y1,hy1⟩:∃ y,C.getD (k+1) 0=y:=⟨_,rfl⟩;obtain ⟨y2,hy2⟩:∃ y,C.getD k 0=y:=⟨_,rfl⟩;rw [hy1] at e1;rw [hy2] at e2 hv1;have hbd:RowKit.Below w.heap.size w wr.drew:=qV hb 1;have z1:wr.drew.cell? ⟨b,o+(k+1),none⟩=some (.int .i64 y1):=zC hbd e1 hbA;have z2:wr.drew.cell? ⟨b,o+k,none⟩=some (.int .i64 y2):=zC hbd e2 hbA;have z1':wr.cell? ⟨b,o+(k+1),none⟩=some (.int .i64 y1):=z1;have z2':wr.cell? ⟨b,o+k,none⟩=some (.int .i64 y2):=z2;have i1:(0:Int)≤(k:Int)+1:=by omega
   have i2:(k:Int)+1<(m:Int):=by omega
   have i3:(0:Int)≤(k:Int):=by omega
   have i4:(k:Int)<(m:Int):=by omega
   have i5:IntKind.i64.wrap ((k:Int)+1-1)=(k:Int):=by rw [IntKind.wrap_i64];omega
   have i8:IntKind.i64.wrap (k:Int)=(k:Int):=by rw [IntKind.wrap_i64];omega
   have i6:IntKind.i64.wrap (-y2) = -y2:=by rw [IntKind.wrap_i64];omega
   have i7:((k:Int)+1).toNat=k+1:=by omega
   have HBD:=zb hbd;have HY1:=zb hy1;have HY2:=zb hy2;have HLT:=zb hlt;clear e1 e2 hcA hy1 hy2 hbd hb hA hv hv1;by_cases hxy:y1 = -y2
   ·have hxb:(y1 == -y2)=true:=by rw [hxy];simp
    have HXY:=zb hxy;clear hxy;go_wp2_with fail
    go_region_held3 (fun w'=>w'.cell? ⟨b,o+(k+1),none⟩=some (.int .i64 y1)∧w'.cell? ⟨b,o+k,none⟩=some (.int .i64 y2)) (first | exact ⟨z1,z2⟩ | go_keep) (fail)
    all_goals
     try go_wp2
     go_ret;rw [HOP.out.2 ⟨k,HLT.out,by rw [HY1.out,HY2.out];exact HXY.out⟩];exact ⟨rfl,HBD.out⟩
   ·have hxb:(y1 == -y2)=false:=by simpa using hxy
    have HXY:=zb hxy;clear hxy;go_wp2_with fail
    go_region_held3 (fun w'=>w'.cell? ⟨b,o+(k+1),none⟩=some (.int .i64 y1)∧w'.cell? ⟨b,o+k,none⟩=some (.int .i64 y2)) (first | exact ⟨z1,z2⟩ | go_keep) (fail)
    all_goals
     try go_wp2
     go_roundw
     case rel =>
      refine ⟨k+1,Or.inr HLT.out,by go_num,fun j hj=>?_,HBD.out⟩;rcases Nat.lt_or_ge j k with h | h
      ·exact HNE.out j h
      ·obtain rfl:j=k:=by omega
       rw [HY1.out,HY2.out];exact HXY.out
     case measure=>simp [intOf];omega
  ·have hlt2:¬ ((k:Int)+1<(m:Int)):=by omega
   go_wp2_with fail
   go_ret;have e9:r=false:=by
    cases r
    ·rfl
    ·obtain ⟨i,h1,h2⟩:=HOP.out.1 rfl;exact absurd h2 (HNE.out i (by omega))
   rw [e9];exact ⟨rfl,hb⟩
theorem zit (w:World) (A:Option Addr) (c:Nat) (t:List Int) (N:Int) (n:Nat) (hn:N=(n:Int)) (hn2:n≤128) (hl:t.length≤1000000) (hr:∀ x∈t,-9223372036854775808≤x∧x≤9223372036854775807) (hA:Rd w w.heap.size A t.length (zO t)) :
  Calls Tryz.prog 62 #[.slice A t.length c,.int .i64 N] w fun e w'=>∃ v,e = .returned (.tuple #[v,.bool (yj N t)])∧RowKit.Below w.heap.size w w':=by
 subst hn;have hva:=zks w A c t (n:Int) hl hr hA;unfold yj;cases hb:t.all fun x=>qh x (n:Int)
 ·rw [hb] at hva;have HVA:=zb hva;clear hva hb hA hr hl;go_enter Tryz.func62, Tryz.ntmps62;go_wp2_with (go_at_call 111;(with_reducible refine HVA.out.mono ?_);rintro e w1 ⟨rfl,hb1⟩)
  go_ret2;exact ⟨_,rfl,hb1⟩
 ·rw [hb] at hva;have hlit:∀ x∈t,(1≤x∧x≤(n:Int))∨(x≤-1∧-x≤(n:Int)):=fun x hx=>zc2 (List.all_eq_true.1 hb x hx) rfl hn2;have hor:=fun W (hb:RowKit.Below w.heap.size w W)=>xU W A c t hl (fun x hx=>by have:=hlit x hx;omega) ((hA.below hb).more hb.size);have hdec:∀ C:List Int,C.Pairwise (fun x y=>qH x<qH y)→(∀ x,x∈C↔x∈t)→oppB C=decide (∃ x∈t,-x∈t):=fun C h1 h2=>by
   have h0:∀ x∈C,x≠0:=fun x hx=>by have:=hlit x ((h2 x).1 hx);omega
   rw [Bool.eq_iff_iff,zjq,opp_iff h1 h0,decide_eq_true_eq];simp only [h2]
  obtain ⟨r,hr2⟩:∃ r,decide (∃ x∈t,-x∈t)=r:=⟨_,rfl⟩;simp only [hr2] at hdec;rw [hr2];have hop:=fun W A' c' (C:List Int) (h1:C.length≤t.length) (h2:∀ x,x∈C↔x∈t) (hs:C.Pairwise (fun x y=>qH x<qH y)) h3=>hdec C hs h2▸zhr W A' c' C (by omega) (fun i=>by
   rw [List.getD_eq_getElem?_getD];rcases Nat.lt_or_ge i C.length with hi | hi
   ·rw [List.getElem?_eq_getElem hi];have:=hlit _ ((h2 _).1 (List.getElem_mem hi));show (C[i]:Int).natAbs≤128;omega
   ·rw [List.getElem?_eq_none hi];decide) h3
  have HVA:=zb hva;have HOR:=zb hor;have HOP:=zb hop;obtain ⟨m,hm⟩:∃ m,t.length=m:=⟨_,rfl⟩;rw [hm] at HVA HOR ⊢;clear hva hb hA hr hl hlit hor hop hdec hr2 hm;cases r
  all_goals
   go_enter Tryz.func62, Tryz.ntmps62;go_wp2_with (first
    | (go_at_call 111;(with_reducible refine HVA.out.mono ?_);rintro e w1 ⟨rfl,hb1⟩)
    | (go_at_call 112;(with_reducible refine (HOR.out _ hb1).mono ?_);rintro e w2 ⟨A',c',C,rfl,hrd,hb2,hC1,hC2,hC3⟩;have B2:=zb (zw hb1 hb2 hb1.size))
    | (go_at_call 113;(with_reducible refine (HOP.out _ _ _ _ hC3 hC2 hC1 hrd).mono ?_);rintro e w3 ⟨rfl,hb3⟩;have B3:=zb (zw B2.out hb3 B2.out.size)))
   go_ret2;exact ⟨_,rfl,B3.out⟩
end Go.Proofs.YtmhllppjcilllaaGreatDoor
