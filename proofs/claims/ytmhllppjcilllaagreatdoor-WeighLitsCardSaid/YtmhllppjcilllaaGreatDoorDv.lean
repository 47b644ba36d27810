import Derived.Test.YtmhllppjcilllaaGreatDoorDt
import Derived.WalkMore
import Derived.Maps.AppendAt
import Derived.Deep.RegionLawGrows
import Derived.Deep.CutBlock
import Derived.Deep.CutRange
set_option linter.unusedSimpArgs false
set_option linter.unusedVariables false
set_option maxRecDepth 100000
set_option maxHeartbeats 4000000
open Go Go.RowKit Cs
namespace Cs
def PrOwn (W:World) (t:TypeId) (g cap m:Nat) (L:List Pr):Prop:=m≤cap∧∃ F,W.rowIs g t (cap*2) F∧∀ i,i<m*2→F i=zD L i
section
variable {W W':World} {t:TypeId} {g cap m:Nat} {L:List Pr}
theorem PrOwn.below (h:PrOwn W t g cap m L) (hb:Below W.heap.size W W'):PrOwn W' t g cap m L:=by
 obtain ⟨h0,F,h1,h2⟩:=h;exact ⟨h0,F,zo h1 hb,h2⟩
theorem PrOwn.alloc (h:PrOwn W t g cap m L) (o:Obj):PrOwn (W.alloc o) t g cap m L:=by
 obtain ⟨h0,F,h1,h2⟩:=h;exact ⟨h0,F,h1.alloc o,h2⟩
theorem PrOwn.other (h:PrOwn W t g cap m L) {b:Nat} (hb:g≠b) (i:Nat) (v:Value):PrOwn (W.setCell ⟨b,i,none⟩ v) t g cap m L:=by
 obtain ⟨h0,F,h1,h2⟩:=h;exact ⟨h0,F,h1.setOther hb _,h2⟩
theorem PrOwn.cells (h:PrOwn W t g cap m L) (k:Nat) (hk:k<m):W.cell? ⟨g,k*2,none⟩=some (.string (za (L.getD k (0,0)).1))∧W.cell? ⟨g,k*2+1,none⟩=some (.string (za (L.getD k (0,0)).2)) ∧
  W.frozen? ⟨g,k*2,none⟩=false∧W.frozen? ⟨g,k*2+1,none⟩=false:=by
 obtain ⟨h0,F,h1,h2⟩:=h;exact ⟨(h1.cell (i:=k*2) (by omega)).trans (by rw [h2 _ (by omega),oR]),(h1.cell (i:=k*2+1) (by omega)).trans (by rw [h2 _ (by omega),oS]),h1.frozen _,h1.frozen _⟩
theorem PrOwn.le (h:PrOwn W t g cap m L):m≤cap:=h.1
theorem PrOwn.lt (h:PrOwn W t g cap m L):g<W.heap.size:=by obtain ⟨_,F,h1,_⟩:=h;exact h1.lt
theorem PrOwn.set (h:PrOwn W t g cap m L) (p:Pr) (k:Nat) (hk:k<m) (hL:L.length=m) :
  PrOwn ((W.setCell ⟨g,k*2,none⟩ (.string (za p.1))).setCell ⟨g,k*2+1,none⟩ (.string (za p.2))) t g cap m (L.set k p):=by
 obtain ⟨h0,F,h1,h2⟩:=h;refine ⟨h0,_,(h1.set _ _).set _ _,fun i hi=>?_⟩;have e:∀ j,(L.set k p).getD j (0,0)=if j=k then p else L.getD j (0,0):=fun j=>by
  rw [List.getD_eq_getElem?_getD,List.getD_eq_getElem?_getD,List.getElem?_set];split
  ·rename_i h1;rw [if_pos h1.symm];subst h1;first | rfl | (rw [if_pos (by omega)];rfl)
  ·rename_i h1;rw [if_neg (fun h=>h1 h.symm)]
 by_cases h3:i=k*2+1
 ·subst h3;rw [if_pos rfl,oS,e,if_pos rfl]
 ·rw [if_neg h3];by_cases h4:i=k*2
  ·subst h4;rw [if_pos rfl,oR,e,if_pos rfl]
  ·rw [if_neg h4,h2 i hi];have h5:¬ i / 2=k:=by omega
   unfold zD;simp only [e,h5,if_false]
theorem PrOwn.rd (h:PrOwn W t g cap m L):Rd W W.heap.size (some ⟨g,0,none⟩) (m*2) (zD L):=fun _=>by
 obtain ⟨h0,F,h1,h2⟩:=h;exact ⟨g,0,rfl,h1.lt,fun i hi=>by rw [Nat.zero_add,h1.cell (i:=i) (by omega),h2 i hi]⟩
theorem PrOwn.of_own {base:Nat} {v:Value} (h:W.ownsRow base t 2 v m ((List.range (m*2)).map (zD L))) (hm:0<m):∃ g cap,v = .slice (some ⟨g,0,none⟩) m cap∧base≤g∧PrOwn W t g cap m L:=by
 obtain ⟨hlen,h2⟩:=h;rcases h2 with ⟨_,h0⟩ | ⟨g,cap,cur,rfl,hb,hg,hc,_,hsz,htk⟩
 ·omega
 ·refine ⟨g,cap,rfl,hb,hc,fun i=>(cur[i]?).getD undef,⟨cur,hg,hsz,fun i hi=>?_⟩,fun i hi=>?_⟩
  ·show cur[i]?=some ((cur[i]?).getD undef);rw [Array.getElem?_eq_getElem (by omega)];rfl
  ·have h3:(cur.toList.take (m*2))[i]?=((List.range (m*2)).map (zD L))[i]?:=by rw [htk]
   rw [List.getElem?_take_of_lt hi,List.getElem?_map,List.getElem?_range hi] at h3;simp at h3;show (cur[i]?).getD undef=_;rw [h3];rfl
end
def oL (t:List Int) (lo:List Pr):List Pr:=t.foldl (fun lo l=>if 0<l then lo.set l.toNat (0,0) else lo) lo
def oO (t:List Int) (hi:List Pr):List Pr:=t.foldl (fun hi l=>if 0<l then hi else hi.set (-l).toNat (0,0)) hi
theorem zi9 (t:List Int) (l:Int) (lo:List Pr):oL (t++[l]) lo=if 0<l then (oL t lo).set l.toNat (0,0) else oL t lo:=by unfold oL;rw [List.foldl_append];rfl
theorem ziA (t:List Int) (l:Int) (hi:List Pr):oO (t++[l]) hi=if 0<l then oO t hi else (oO t hi).set (-l).toNat (0,0):=by unfold oO;rw [List.foldl_append];rfl
theorem zlo_len (t:List Int):∀ lo:List Pr,(oL t lo).length=lo.length:=by
 induction t with
 | nil=>intro lo;rfl
 | cons l t ih =>
   intro lo;show (oL t (if 0<l then lo.set l.toNat (0,0) else lo)).length=_;rw [ih];split <;> simp
theorem zhi_len (t:List Int):∀ hi:List Pr,(oO t hi).length=hi.length:=by
 induction t with
 | nil=>intro hi;rfl
 | cons l t ih =>
   intro hi;show (oO t (if 0<l then hi else hi.set (-l).toNat (0,0))).length=_;rw [ih];split <;> simp
end Cs
namespace Go.Proofs.YtmhllppjcilllaaGreatDoor
theorem zeroArr:∀ i,i<2→zy #[.string ⟨#[]⟩,.string ⟨#[]⟩] i=qI 0 0 i:=fun i hi=>by
 have h0:=pP;have:i=0∨i=1:=by omega
 rcases this with rfl | rfl
 ·show Value.string ⟨#[]⟩ = .string (za 0);rw [h0]
 ·show Value.string ⟨#[]⟩ = .string (za 0);rw [h0]
theorem zhJ {w w':World} (h:w.grownBy w' none):Below w.heap.size w w':=⟨h.os,h.tape,h.output,h.size,fun k hk=>h.block k hk (by simp)⟩
theorem prsStr (L:List Pr) (m:Nat):∀ u∈(List.range m).map (zD L),u.oneCell'=true:=fun u hu=>by
 obtain ⟨i,_,rfl⟩:=List.mem_map.1 hu;rfl
theorem zh8 (w:World) (cl ch n ct:Nat) (lo hi:List Pr) (t:List Int) (Al Ah At:Option Addr) (ga:Nat) (S:Pr) (hn:n≤128) (hlo:Rd w w.heap.size Al ((n+1)*2) (zD lo)) (hhi:Rd w w.heap.size Ah ((n+1)*2) (zD hi))
  (ht:Rd w w.heap.size At t.length (zO t)) (htl:t.length≤1000000) (hto:∀ l∈t,(1≤l∧l≤n)∨(l≤-1∧-l≤n)) (hll:lo.length=n+1) (hlh:hi.length=n+1)
  (hS:∀ W Al' Ah' cl' ch',Below w.heap.size w W→n+1≤cl'→n+1≤ch'→Rd W W.heap.size Al' ((n+1)*2) (zD (oL t lo))→Rd W W.heap.size Ah' ((n+1)*2) (zD (oO t hi)) →
    Calls Tryz.prog 53 #[.pointer (some ⟨ga,0,none⟩),yJ Al' Ah' (n+1) (n+1) cl' ch'] W fun e w'=>e = .returned (zI S.1 S.2)∧Below W.heap.size W w') :
  Calls Tryz.prog 59 #[yJ Al Ah (n+1) (n+1) cl ch,.slice At t.length ct,.func (.func 53) #[.pointer (some ⟨ga,0,none⟩)] #[]] w fun e w'=>e = .returned (zI S.1 S.2)∧Below w.heap.size w w':=by
 obtain ⟨Sn,Sd⟩:=S;obtain ⟨ti,hti,ht0,ht1,ht2⟩:=info_parts zg2;obtain ⟨bl,ol,rfl,hbl,hcl⟩:=hlo (by omega);obtain ⟨bh,oh,rfl,hbh,hch⟩:=hhi (by omega);have hnl:∀ W:World,Below w.heap.size w W→∀ j u,((List.range ((n+1)*2)).map (zD lo))[j]?=some u→W.cell? ((⟨bl,ol,none⟩:Addr).add j)=some u:=fun W hW j u hj=>by
  have hjn:j<(n+1)*2:=by
   rcases Nat.lt_or_ge j ((n+1)*2) with h | h
   ·exact h
   ·rw [List.getElem?_eq_none (by simpa using h)] at hj;cases hj
  rw [List.getElem?_map,List.getElem?_range hjn] at hj;injection hj with hj;subst hj;have e:(⟨bl,ol,none⟩:Addr).add j=⟨bl,ol+j,none⟩:=by unfold Addr.add;split <;> simp_all
  rw [e];exact zB hW hbl (hcl j hjn)
 have hnh:∀ W:World,Below w.heap.size w W→∀ j u,((List.range ((n+1)*2)).map (zD hi))[j]?=some u→W.cell? ((⟨bh,oh,none⟩:Addr).add j)=some u:=fun W hW j u hj=>by
  have hjn:j<(n+1)*2:=by
   rcases Nat.lt_or_ge j ((n+1)*2) with h | h
   ·exact h
   ·rw [List.getElem?_eq_none (by simpa using h)] at hj;cases hj
  rw [List.getElem?_map,List.getElem?_range hjn] at hj;injection hj with hj;subst hj;have e:(⟨bh,oh,none⟩:Addr).add j=⟨bh,oh+j,none⟩:=by unfold Addr.add;split <;> simp_all
  rw [e];exact zB hW hbh (hch j hjn)
 have HNL:=zb hnl;have HNH:=zb hnh;have HS:=zb hS;have HTO:=zb hto;have hwts:=(zF w #[.slice (some ⟨bl,ol,none⟩) (n+1) cl,.slice (some ⟨bh,oh,none⟩) (n+1) ch] 39 w.heap.size 2 rfl rfl).alloc (.cells #[.string ⟨#[]⟩,.string ⟨#[]⟩] 33);have hres:=zco (w.alloc (.cells #[.slice (some ⟨bl,ol,none⟩) (n+1) cl,.slice (some ⟨bh,oh,none⟩) (n+1) ch] 39)) 33 (w.heap.size+1) (by simp);have hbel:=((Below.refl w.heap.size w).alloc (zu _) (.cells #[.slice (some ⟨bl,ol,none⟩) (n+1) cl,.slice (some ⟨bh,oh,none⟩) (n+1) ch] 39)).alloc (by simp) (.cells #[.string ⟨#[]⟩,.string ⟨#[]⟩] 33);clear hcl hch hlo hhi hnl hnh hS hto;go_enter Tryz.func59, Tryz.ntmps59;go_wp2_with fail
 have d1:World.cell? _ ⟨w.heap.size,0,none⟩=some (.slice (some ⟨bl,ol,none⟩) (n+1) cl):=hwts.cell (i:=0) (by omega);have d2:World.cell? _ ⟨w.heap.size,1,none⟩=some (.slice (some ⟨bh,oh,none⟩) (n+1) ch):=hwts.cell (i:=1) (by omega);go_cut [7] from 10 to 18 (fun p wx=>∃ gu g1 c1 g2 c2,p = .pointer (some ⟨gu,0,none⟩)∧gu≠g1∧gu≠g2∧g1≠g2∧w.heap.size+1<gu∧w.heap.size+1<g1∧w.heap.size+1<g2∧wx.rowIs gu 39 2 (zy #[.slice (some ⟨g1,0,none⟩) (n+1) c1,.slice (some ⟨g2,0,none⟩) (n+1) c2])∧PrOwn wx 33 g1 c1 (n+1) lo∧PrOwn wx 33 g2 c2 (n+1) hi∧wx.rowIs (w.heap.size+1) 33 2 (qI 0 0)∧Below w.heap.size w wx)
 case first =>
  have q:=(Bag.zero w).new #[.slice (some ⟨bl,ol,none⟩) (n+1) cl,.slice (some ⟨bh,oh,none⟩) (n+1) ch] 39 w.heap.size 2 rfl rfl |>.new #[.string ⟨#[]⟩,.string ⟨#[]⟩] 33 (w.heap.size+1) 2 (by simp) rfl
  have hsz0:w.heap.size+1+1≤((w.alloc (.cells #[.slice (some ⟨bl,ol,none⟩) (n+1) cl,.slice (some ⟨bh,oh,none⟩) (n+1) ch] 39)).alloc (.cells #[.string ⟨#[]⟩,.string ⟨#[]⟩] 33)).heap.size:=by simp
  obtain ⟨W0,hW0⟩:∃ W0,(w.alloc (.cells #[.slice (some ⟨bl,ol,none⟩) (n+1) cl,.slice (some ⟨bh,oh,none⟩) (n+1) ch] 39)).alloc (.cells #[.string ⟨#[]⟩,.string ⟨#[]⟩] 33)=W0:=⟨_,rfl⟩;rw [hW0] at q d1 d2 hsz0 ⊢;clear hW0 hwts hres hbel;have hZ2:(#[.slice none 0 0,.slice none 0 0]:Array Value).size=2:=rfl;have hA0:zy #[.slice (some ⟨bl,ol,none⟩) (n+1) cl,.slice (some ⟨bh,oh,none⟩) (n+1) ch] 0 = .slice (some ⟨bl,ol,none⟩) (n+1) cl:=rfl;have hA1:zy #[.slice (some ⟨bl,ol,none⟩) (n+1) cl,.slice (some ⟨bh,oh,none⟩) (n+1) ch] 1 = .slice (some ⟨bh,oh,none⟩) (n+1) ch:=rfl;go_region_held3 (fun w'=>w'.cell? ⟨w.heap.size,0,none⟩=some (.slice (some ⟨bl,ol,none⟩) (n+1) cl)∧w'.cell? ⟨w.heap.size,1,none⟩=some (.slice (some ⟨bh,oh,none⟩) (n+1) ch))
   (first | with_reducible exact ⟨d1,d2⟩ | with_reducible exact ⟨qO (by omega) d1,qO (by omega) d2⟩ | exact ⟨(q.alloc _).is w.heap.size 2 39 #[.slice (some ⟨bl,ol,none⟩) (n+1) cl,.slice (some ⟨bh,oh,none⟩) (n+1) ch] (by simp) 0 (by decide) _ rfl,(q.alloc _).is w.heap.size 2 39 #[.slice (some ⟨bl,ol,none⟩) (n+1) cl,.slice (some ⟨bh,oh,none⟩) (n+1) ch] (by simp) 1 (by decide) _ hA1⟩ | exact ⟨(q.alloc _).drew.is w.heap.size 2 39 #[.slice (some ⟨bl,ol,none⟩) (n+1) cl,.slice (some ⟨bh,oh,none⟩) (n+1) ch] (by simp) 0 (by decide) _ rfl,(q.alloc _).drew.is w.heap.size 2 39 #[.slice (some ⟨bl,ol,none⟩) (n+1) cl,.slice (some ⟨bh,oh,none⟩) (n+1) ch] (by simp) 1 (by decide) _ hA1⟩ | exact ⟨((q.alloc _).alloc _).is w.heap.size 2 39 #[.slice (some ⟨bl,ol,none⟩) (n+1) cl,.slice (some ⟨bh,oh,none⟩) (n+1) ch] (by simp) 0 (by decide) _ rfl,((q.alloc _).alloc _).is w.heap.size 2 39 #[.slice (some ⟨bl,ol,none⟩) (n+1) cl,.slice (some ⟨bh,oh,none⟩) (n+1) ch] (by simp) 1 (by decide) _ hA1⟩ | exact ⟨((q.alloc _).alloc _).drew.is w.heap.size 2 39 #[.slice (some ⟨bl,ol,none⟩) (n+1) cl,.slice (some ⟨bh,oh,none⟩) (n+1) ch] (by simp) 0 (by decide) _ rfl,((q.alloc _).alloc _).drew.is w.heap.size 2 39 #[.slice (some ⟨bl,ol,none⟩) (n+1) cl,.slice (some ⟨bh,oh,none⟩) (n+1) ch] (by simp) 1 (by decide) _ hA1⟩ | exact ⟨(((q.alloc _).alloc _).alloc _).drew.is w.heap.size 2 39 #[.slice (some ⟨bl,ol,none⟩) (n+1) cl,.slice (some ⟨bh,oh,none⟩) (n+1) ch] (by simp) 0 (by decide) _ rfl,(((q.alloc _).alloc _).alloc _).drew.is w.heap.size 2 39 #[.slice (some ⟨bl,ol,none⟩) (n+1) cl,.slice (some ⟨bh,oh,none⟩) (n+1) ch] (by simp) 1 (by decide) _ hA1⟩ | go_keep)
   (first
     | (
       refine step_append_grows (by rfl) (.tmp 10) (.tmp 12) _ (by rfl) 33 ti (.agg #[.string ⟨#[]⟩,.string ⟨#[]⟩]) 2 32 Tryz.underlying37 hti ht0 ht1 ht2 rfl (by decide) _ 0 0 [] (by rfl) (fun h=>by cases h) rfl (fun _ _ _ _ h=>by simp at h) ⟨bl,ol,none⟩ (n+1) cl ((List.range ((n+1)*2)).map (zD lo)) (by rfl) (by simp) (HNL.out _ (by first | with_reducible exact ((q.new #[.slice none 0 0,.slice none 0 0] 39 _ 2 rfl hZ2).drew).bl | with_reducible exact (((q.new #[.slice none 0 0,.slice none 0 0] 39 _ 2 rfl hZ2).alloc _).drew).bl | with_reducible exact (((q.alloc _).new #[.slice none 0 0,.slice none 0 0] 39 _ 2 rfl hZ2).drew).bl | with_reducible exact ((((q.new #[.slice none 0 0,.slice none 0 0] 39 _ 2 rfl hZ2).alloc _).alloc _).drew).bl | with_reducible exact ((((q.alloc _).new #[.slice none 0 0,.slice none 0 0] 39 _ 2 rfl hZ2).alloc _).drew).bl | with_reducible exact ((((q.alloc _).alloc _).new #[.slice none 0 0,.slice none 0 0] 39 _ 2 rfl hZ2).drew).bl | with_reducible exact (q.drew).bl | with_reducible exact ((q.alloc _).drew).bl | with_reducible exact (((q.alloc _).alloc _).drew).bl)) (prsStr _ _) (by omega) (by unfold maxLen;omega) (by omega) ?_;intro v1 w1 hw1 hgr1;have hb1:=zhJ hgr1;have hx1:=hw1;rw [Nat.zero_add,List.nil_append] at hx1;obtain ⟨g1,k1,rfl,hba1,P1⟩:=PrOwn.of_own hx1 (by omega);have hsz1:=hb1.size;try simp at hba1
       try simp at hsz1
       first
        | with_reducible replace q:=((q.new #[.slice none 0 0,.slice none 0 0] 39 _ 2 rfl hZ2).drew).below hb1
        | with_reducible replace q:=(((q.new #[.slice none 0 0,.slice none 0 0] 39 _ 2 rfl hZ2).alloc _).drew).below hb1
        | with_reducible replace q:=(((q.alloc _).new #[.slice none 0 0,.slice none 0 0] 39 _ 2 rfl hZ2).drew).below hb1
        | with_reducible replace q:=((((q.new #[.slice none 0 0,.slice none 0 0] 39 _ 2 rfl hZ2).alloc _).alloc _).drew).below hb1
        | with_reducible replace q:=((((q.alloc _).new #[.slice none 0 0,.slice none 0 0] 39 _ 2 rfl hZ2).alloc _).drew).below hb1
        | with_reducible replace q:=((((q.alloc _).alloc _).new #[.slice none 0 0,.slice none 0 0] 39 _ 2 rfl hZ2).drew).below hb1
        | with_reducible replace q:=(q.drew).below hb1
        | with_reducible replace q:=((q.alloc _).drew).below hb1
        | with_reducible replace q:=(((q.alloc _).alloc _).drew).below hb1
       have d1:World.cell? _ ⟨w.heap.size,0,none⟩=some (.slice (some ⟨bl,ol,none⟩) (n+1) cl):=q.is w.heap.size 2 39 #[.slice (some ⟨bl,ol,none⟩) (n+1) cl,.slice (some ⟨bh,oh,none⟩) (n+1) ch] (by simp) 0 (by decide) _ rfl;have d2:World.cell? _ ⟨w.heap.size,1,none⟩=some (.slice (some ⟨bh,oh,none⟩) (n+1) ch):=q.is w.heap.size 2 39 #[.slice (some ⟨bl,ol,none⟩) (n+1) cl,.slice (some ⟨bh,oh,none⟩) (n+1) ch] (by simp) 1 (by decide) _ rfl)
     | (
       refine step_append_grows (by rfl) (.tmp 14) (.tmp 16) _ (by rfl) 33 ti (.agg #[.string ⟨#[]⟩,.string ⟨#[]⟩]) 2 32 Tryz.underlying37 hti ht0 ht1 ht2 rfl (by decide) _ 0 0 [] (by rfl) (fun h=>by cases h) rfl (fun _ _ _ _ h=>by simp at h) ⟨bh,oh,none⟩ (n+1) ch ((List.range ((n+1)*2)).map (zD hi)) (by rfl) (by simp) (HNH.out _ (by first | with_reducible exact ((q.new #[.slice none 0 0,.slice none 0 0] 39 _ 2 rfl hZ2)).bl | with_reducible exact (((q.new #[.slice none 0 0,.slice none 0 0] 39 _ 2 rfl hZ2).alloc _)).bl | with_reducible exact (((q.alloc _).new #[.slice none 0 0,.slice none 0 0] 39 _ 2 rfl hZ2)).bl | with_reducible exact ((((q.new #[.slice none 0 0,.slice none 0 0] 39 _ 2 rfl hZ2).alloc _).alloc _)).bl | with_reducible exact ((((q.alloc _).new #[.slice none 0 0,.slice none 0 0] 39 _ 2 rfl hZ2).alloc _)).bl | with_reducible exact ((((q.alloc _).alloc _).new #[.slice none 0 0,.slice none 0 0] 39 _ 2 rfl hZ2)).bl | with_reducible exact (q).bl | with_reducible exact ((q.alloc _)).bl | with_reducible exact (((q.alloc _).alloc _)).bl)) (prsStr _ _) (by omega) (by unfold maxLen;omega) (by omega) ?_;intro v2 w2 hw2 hgr2;have hb2:=zhJ hgr2;have hx2:=hw2;rw [Nat.zero_add,List.nil_append] at hx2;obtain ⟨g2,k2,rfl,hba2,P2⟩:=PrOwn.of_own hx2 (by omega);have hsz2:=hb2.size;try simp at hba2
       try simp at hsz2
       first
        | with_reducible replace q:=((q.new #[.slice none 0 0,.slice none 0 0] 39 _ 2 rfl hZ2)).below hb2
        | with_reducible replace q:=(((q.new #[.slice none 0 0,.slice none 0 0] 39 _ 2 rfl hZ2).alloc _)).below hb2
        | with_reducible replace q:=(((q.alloc _).new #[.slice none 0 0,.slice none 0 0] 39 _ 2 rfl hZ2)).below hb2
        | with_reducible replace q:=((((q.new #[.slice none 0 0,.slice none 0 0] 39 _ 2 rfl hZ2).alloc _).alloc _)).below hb2
        | with_reducible replace q:=((((q.alloc _).new #[.slice none 0 0,.slice none 0 0] 39 _ 2 rfl hZ2).alloc _)).below hb2
        | with_reducible replace q:=((((q.alloc _).alloc _).new #[.slice none 0 0,.slice none 0 0] 39 _ 2 rfl hZ2)).below hb2
        | with_reducible replace q:=(q).below hb2
        | with_reducible replace q:=((q.alloc _)).below hb2
        | with_reducible replace q:=(((q.alloc _).alloc _)).below hb2
       have d1:World.cell? _ ⟨w.heap.size,0,none⟩=some (.slice (some ⟨bl,ol,none⟩) (n+1) cl):=q.is w.heap.size 2 39 #[.slice (some ⟨bl,ol,none⟩) (n+1) cl,.slice (some ⟨bh,oh,none⟩) (n+1) ch] (by simp) 0 (by decide) _ rfl;have d2:World.cell? _ ⟨w.heap.size,1,none⟩=some (.slice (some ⟨bh,oh,none⟩) (n+1) ch):=q.is w.heap.size 2 39 #[.slice (some ⟨bl,ol,none⟩) (n+1) cl,.slice (some ⟨bh,oh,none⟩) (n+1) ch] (by simp) 1 (by decide) _ rfl;have P1':PrOwn w2 33 g1 k1 (n+1) lo:=by
        first
         | with_reducible exact P1.below hb2
         | with_reducible exact (P1.alloc _).below hb2
         | with_reducible exact ((P1.alloc _).alloc _).below hb2
         | with_reducible exact (((P1.alloc _).alloc _).alloc _).below hb2
       have u1:=q.row0.frozen 0;have u2:=q.row0.frozen 1;try have t1:=q.is0 0 (by decide) (Value.slice none 0 0) rfl
       try have t2:=q.is0 1 (by decide) (Value.slice none 0 0) rfl
       try simp at u1
       try simp at u2
       try simp at t1
       try simp at t2))
  all_goals
   try go_wp2
   have L1:=P1.lt;have L1':=P1'.lt;have L2:=P2.lt;have hrs:=(q.rows (w.heap.size+1, 33,2,#[.string ⟨#[]⟩,.string ⟨#[]⟩]) (by simp)).congr zeroArr;simp only at hrs;go_meet;first
    | exact ⟨_,_,_,_,_,rfl,by omega,by omega,by omega,by omega,by omega,by omega,zF w2 _ _ _ 2 rfl rfl,P1'.alloc _,P2.alloc _,hrs.alloc _,q.bl.alloc (by omega) _⟩
    | (have hT:=q.row0
       (try simp at hT)
       exact ⟨_,_,_,_,_,rfl,by omega,by omega,by omega,by omega,by omega,by omega,qx hT _ _,(P1'.other (by omega) _ _).other (by omega) _ _,(P2.other (by omega) _ _).other (by omega) _ _,(hrs.setOther (by simp;omega) _).setOther (by simp;omega) _,(q.bl.setCell (by simp;omega) _).setCell (by simp;omega) _⟩)
    | trace_state
 case rest =>
  obtain ⟨gu,g1,c1,g2,c2,rfl,n1,n2,n3,l1,l2,l3,hu,P1,P2,hrs,hbel'⟩:=hcut;clear hwts hres hbel d1 d2 HNL HNH;obtain ⟨tb,tf,htd⟩:∃ tb tf,0<t.length→(At=some ⟨tb,tf,none⟩∧tb<w.heap.size∧∀ i,i<t.length→w.cell? ⟨tb,tf+i,none⟩=some (zO t i)):=by
   rcases Nat.eq_zero_or_pos t.length with h | h
   ·exact ⟨0,0,fun h2=>absurd h2 (by omega)⟩
   ·obtain ⟨b,o,h1,h2,h3⟩:=ht h;exact ⟨b,o,fun _=>⟨h1,h2,h3⟩⟩
  have HTD:=zb htd;have hz:=pP;have HZ:=zb hz;have HL:=zb hll;have HH:=zb hlh;clear htd ht hz hll hlh;go_wp2_with fail
  go_loopw [21] (fun i wr=>∃ k:Nat,k≤t.length∧i = .int .i64 k∧wr.rowIs gu 39 2 (zy #[.slice (some ⟨g1,0,none⟩) (n+1) c1,.slice (some ⟨g2,0,none⟩) (n+1) c2])∧PrOwn wr 33 g1 c1 (n+1) (oL (t.take k) lo)∧PrOwn wr 33 g2 c2 (n+1) (oO (t.take k) hi)∧wr.rowIs (w.heap.size+1) 33 2 (qI 0 0)∧Below w.heap.size w wr) (fun i _=>t.length-(intOf i).toNat)
  case atStart=>exact ⟨0,by omega,rfl,hu,P1,P2,hrs,hbel'⟩
  case round =>
   clear hu P1 P2 hrs hbel';obtain ⟨k,hk,rfl,hu,P1,P2,hrs,hbel⟩:=hrel;have d1:World.cell? _ ⟨gu,0,none⟩=some (.slice (some ⟨g1,0,none⟩) (n+1) c1):=hu.cell (i:=0) (by omega);have d2:World.cell? _ ⟨gu,1,none⟩=some (.slice (some ⟨g2,0,none⟩) (n+1) c2):=hu.cell (i:=1) (by omega);by_cases hlt:k<t.length
   ·obtain ⟨rfl,hbB',hcs⟩:=HTD.out (by omega);have hc:=zB hbel hbB' (hcs k hlt);clear hcs;unfold zO at hc;have hgm:t.getD k 0=t[k]:=by simp [List.getD,hlt]
    rw [hgm] at hc;have hto:=HTO.out t[k] (List.getElem_mem hlt);have htk:=List.take_succ_eq_append_getElem hlt;have hz1:=zi9 (t.take k) t[k] lo;have hz2:=ziA (t.take k) t[k] hi;rw [← htk] at hz1 hz2;have hq1:(oL (t.take k) lo).length=n+1:=by rw [zlo_len];exact HL.out
    have hq2:(oO (t.take k) hi).length=n+1:=by rw [zhi_len];exact HH.out
    obtain ⟨l,hl⟩:∃ l,t[k]=l:=⟨_,rfl⟩;rw [hl] at hc hto hz1 hz2;have HZ1:=zb hz1;have HZ2:=zb hz2;clear hz1 hz2 htk hgm hl;rcases hto with ⟨r1,r2⟩ | ⟨r1,r2⟩
    ·obtain ⟨v,rfl⟩:∃ v:Nat,l=(v:Int):=⟨l.toNat,by omega⟩;have hpos:(0:Int)<(v:Int):=by omega
     have hi2:(0:Int)≤(v:Int):=by omega
     have hi3:(v:Int)<(n:Int)+1:=by omega
     have hi4:(v:Int)<((n+1:Nat):Int):=by omega
     obtain ⟨e1,e2,f1,f2⟩:=P1.cells v (by omega);have hrel:∀ W:World,W=(wr.setCell ⟨g1,v*2,none⟩ (.string ⟨#[]⟩)).setCell ⟨g1,v*2+1,none⟩ (.string ⟨#[]⟩)→W.rowIs gu 39 2 (zy #[.slice (some ⟨g1,0,none⟩) (n+1) c1,.slice (some ⟨g2,0,none⟩) (n+1) c2])∧PrOwn W 33 g1 c1 (n+1) (oL (t.take (k+1)) lo)∧PrOwn W 33 g2 c2 (n+1) (oO (t.take (k+1)) hi)∧W.rowIs (w.heap.size+1) 33 2 (qI 0 0)∧Below w.heap.size w W:=by
      rintro W rfl;refine ⟨(hu.setOther n1 _).setOther n1 _,?_,?_,(hrs.setOther (by simp;omega) _).setOther (by simp;omega) _,(hbel.setCell (by simp;omega) _).setCell (by simp;omega) _⟩
      ·rw [HZ1.out,if_pos hpos,Int.toNat_natCast,← HZ.out];exact P1.set (0,0) v (by omega) hq1
      ·rw [HZ2.out,if_pos hpos];exact (P2.other (Ne.symm n3) _ _).other (Ne.symm n3) _ _
     have HREL:=zb hrel;clear hrel;go_wp2;go_roundw
     case rel=>exact ⟨k+1,by omega,by go_num,HREL.out _ rfl⟩
     case measure=>simp [intOf];omega
    ·obtain ⟨v,rfl⟩:∃ v:Nat,l = -(v:Int):=⟨(-l).toNat,by omega⟩;have hpos:¬ (0:Int) < -(v:Int):=by omega
     have hi2:(0:Int)≤(v:Int):=by omega
     have hi3:(v:Int)<(n:Int)+1:=by omega
     have hi4:(v:Int)<((n+1:Nat):Int):=by omega
     obtain ⟨e1,e2,f1,f2⟩:=P2.cells v (by omega);have hrel:∀ W:World,W=(wr.setCell ⟨g2,v*2,none⟩ (.string ⟨#[]⟩)).setCell ⟨g2,v*2+1,none⟩ (.string ⟨#[]⟩)→W.rowIs gu 39 2 (zy #[.slice (some ⟨g1,0,none⟩) (n+1) c1,.slice (some ⟨g2,0,none⟩) (n+1) c2])∧PrOwn W 33 g1 c1 (n+1) (oL (t.take (k+1)) lo)∧PrOwn W 33 g2 c2 (n+1) (oO (t.take (k+1)) hi)∧W.rowIs (w.heap.size+1) 33 2 (qI 0 0)∧Below w.heap.size w W:=by
      rintro W rfl;refine ⟨(hu.setOther n2 _).setOther n2 _,?_,?_,(hrs.setOther (by simp;omega) _).setOther (by simp;omega) _,(hbel.setCell (by simp;omega) _).setCell (by simp;omega) _⟩
      ·rw [HZ1.out,if_neg hpos];exact (P1.other n3 _ _).other n3 _ _
      ·rw [HZ2.out,if_neg hpos,Int.neg_neg,Int.toNat_natCast,← HZ.out];exact P2.set (0,0) v (by omega) hq2
     have HREL:=zb hrel;clear hrel;go_wp2;go_roundw
     case rel=>exact ⟨k+1,by omega,by go_num,HREL.out _ rfl⟩
     case measure=>simp [intOf];omega
   ·obtain rfl:k=t.length:=by omega
    rw [List.take_length] at P1 P2;go_wp2_with (
     go_at_call 53;(with_reducible refine (HS.out _ _ _ c1 c2 hbel P1.le P2.le P1.rd P2.rd).mono ?_);rintro e w5 ⟨rfl,hb5⟩;have hrs5:=zo hrs hb5;obtain ⟨z1,z2⟩:=qj hrs5;have f1:=hrs5.frozen 0;have f2:=hrs5.frozen 1;have hbel5:=zw hbel hb5 hbel.size)
    exact zcF rfl Sn Sd rfl (oT hrs5 Sn Sd) rfl ⟨rfl,(hbel5.setCell (by simp) _).setCell (by simp) _⟩
end Go.Proofs.YtmhllppjcilllaaGreatDoor
