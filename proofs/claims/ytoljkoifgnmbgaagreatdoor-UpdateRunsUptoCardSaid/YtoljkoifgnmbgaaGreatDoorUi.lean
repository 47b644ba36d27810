import Derived.Test.YtoljkoifgnmbgaaGreatDoorVf
import Derived.Maps.AppendAt
import Derived.Test.YtoljkoifgnmbgaaGreatDoorKl
import Derived.Test.YtoljkoifgnmbgaaGreatDoorRH
import Derived.Test.YtoljkoifgnmbgaaGreatDoorRJ
import Derived.Test.YtoljkoifgnmbgaaGreatDoorDt
set_option linter.unusedSimpArgs false
set_option linter.unusedVariables false
section
set_option maxRecDepth 100000
set_option maxHeartbeats 1000000
open Go Go.RowKit Cs
namespace Go.Proofs.YtoljkoifgnmbgaaGreatDoor
theorem pF (w:World) (A:Option Addr) (c:Nat) (T:List Int) (x:Int) (hT:T.length≤1000000) (hA:Rd w w.heap.size A T.length (zJ T)) :
  Calls Tryz.prog 109 #[.slice A T.length c,.int .i64 x] w fun e w'=>(∃ r:Int,e = .returned (.int .i64 r)∧(0≤r↔x∈T))∧Below w.heap.size w w':=by
 go_enter Tryz.func109, Tryz.ntmps109;go_wp2_with fail
 go_loopw [8] (fun t wr=>∃ k:Nat,k≤T.length∧t = .int .i64 (k:Int)∧(∀ j,j<k→T.getD j 0≠x)∧Below w.heap.size w wr) (fun t _=>T.length-(intOf t).toNat)
 case atStart=>exact ⟨0,Nat.zero_le _,rfl,fun _ h=>absurd h (by omega),zA _ _⟩
 case round =>
  obtain ⟨k,hk,rfl,hne,hb⟩:=hrel;have HNE:=za hne;clear hne;by_cases hlt:k<T.length
  ·obtain ⟨b,o,rfl,hbA,hcA⟩:=(hA.below hb) (by omega);have cA0:=hcA k hlt;have i1:(0:Int)≤(k:Int):=by omega
   have i2:(k:Int)<(T.length:Int):=by omega
   have hbA':b<wr.heap.size:=Nat.lt_of_lt_of_le hbA hb.size;obtain ⟨y,hy⟩:∃ y,T.getD k 0=y:=⟨_,rfl⟩;have cA:wr.cell? ⟨b,o+k,none⟩=some (.int .i64 y):=by rw [cA0];unfold zJ;rw [hy]
   have HY:=za hy;clear hcA hy cA0;by_cases hxy:x=y
   ·have HXY:=za hxy;have hxb:(x==y)=true:=by rw [hxy];simp
    have HLT:=za hlt;clear hxy;go_wp2_with fail
    go_ret;refine ⟨⟨(k:Int),rfl,⟨fun _=>?_,fun _=>by omega⟩⟩,hb⟩;have e1:=HXY.out.trans HY.out.symm;rw [e1,List.getD_eq_getElem?_getD,List.getElem?_eq_getElem HLT.out];exact List.getElem_mem HLT.out
   ·have hxb:(x==y)=false:=by simpa using hxy
    have HXY:=za hxy;clear hxy;go_wp2_with fail
    go_roundw
    case rel =>
     refine ⟨k+1,by omega,by go_num,fun j hj=>?_,hb⟩;rcases Nat.lt_or_ge j k with h | h
     ·exact HNE.out j h
     ·obtain rfl:j=k:=by omega
      rw [HY.out];exact fun e=>HXY.out e.symm
    case measure=>simp [intOf];omega
  ·obtain rfl:k=T.length:=by omega
   go_wp2_with fail
   go_ret;refine ⟨⟨-1,rfl,⟨fun h=>absurd h (by omega),fun h=>?_⟩⟩,hb⟩;obtain ⟨j,hj,e⟩:=List.mem_iff_getElem.1 h;have:=HNE.out j hj;rw [List.getD_eq_getElem?_getD,List.getElem?_eq_getElem hj] at this;exact absurd e this
theorem zcg (w:World) (A:Option Addr) (c:Nat) (T:List Int) (x:Int) (hT:T.length≤1000000) (hA:Rd w w.heap.size A T.length (zJ T)) :
  Calls Tryz.prog 63 #[.slice A T.length c,.int .i64 x] w fun e w'=>e = .returned (.bool (decide (x∈T)))∧Below w.heap.size w w':=by
 have HI:=za (pF w A c T x hT hA);clear hA;go_enter Tryz.func63, Tryz.ntmps63;go_wp2_with (go_at_call 109;refine HI.out.mono ?_;rintro e w9 ⟨⟨r,rfl,hr⟩,hb9⟩)
 all_goals
  go_ret;refine ⟨?_,hb9⟩;by_cases h:x∈T
  ·have:=hr.2 h;rw [decide_eq_true h];simp [this]
  ·have:¬ 0≤r:=fun h2=>h (hr.1 h2);rw [decide_eq_false h];first | (simp;done) | (simp;omega)
section
variable {w:World} {D E:Nat} {g:Sg} {N:Nt} {n:Nat} {lo hi:List Pr} {tv:Value} {T:List Int} {k:Int} {C1 C2 C3:List Nat} {P1 P2 P3:List Pr}
theorem zcA (h:SsAt w D E g N n lo hi tv T k C1 C2 C3 P1 P2 P3) (hv:zC N=true):Calls Tryz.prog 58 #[.pointer (some ⟨g.b,0,none⟩)] w fun e w'=>e = .returned (.bool false)∧w=w':=by
 obtain ⟨_,_,hl0,_⟩:=qD hv;have s1:w.cell? ⟨g.b,1,none⟩=some (.slice g.A N.l.length g.cA):=h.cell 1 (by decide) _ rfl;have i1:¬ (N.l.length:Int)=0:=by omega
 have i2:((N.l.length:Int)==0)=false:=by simpa using i1
 have i3:¬ N.l.length=0:=by omega
 clear h hv hl0;go_enter Tryz.func58, Tryz.ntmps58;go_wp2_with fail
 go_ret;exact ⟨rfl,rfl⟩
theorem zkW (h:SsAt w D E g N n lo hi tv T k C1 C2 C3 P1 P2 P3) (hv:zC N=true):Calls Tryz.prog 27 #[.pointer (some ⟨g.b,0,none⟩)] w fun e w'=>e = .returned (.int .i64 k)∧w=w':=by
 have HN:=za (zcA h hv);have s1:w.cell? ⟨g.b,4,none⟩=some (.int .i64 k):=h.cell 4 (by decide) _ rfl;clear h hv;go_enter Tryz.func27, Tryz.ntmps27;go_wp2_with (go_at_call 58;refine HN.out.mono ?_;rintro e w9 ⟨rfl,rfl⟩)
 all_goals
  go_ret;exact ⟨rfl,rfl⟩
theorem SsAt.term (h:SsAt w D E g N n lo hi tv T k C1 C2 C3 P1 P2 P3):∃ A c,tv = .slice A T.length c∧Rd w w.heap.size A T.length (zJ T):=by
 obtain ⟨h1,h2⟩:=h.tr;rcases h2 with ⟨rfl,h0⟩ | ⟨b,cap,cur,rfl,_⟩
 ·exact ⟨none,0,by rw [h0],fun h=>absurd h (by omega)⟩
 ·exact ⟨_,_,rfl,Rd.of_own h.tr fun i hi=>by
   rw [List.getElem?_map,List.getElem?_eq_getElem hi];unfold zJ;rw [List.getD_eq_getElem?_getD,List.getElem?_eq_getElem hi];rfl⟩
theorem term_own (h:SsAt w D E g N n lo hi tv T k C1 C2 C3 P1 P2 P3) (hv:zC N=true) (hl:T.length≤1000000):Calls Tryz.prog 26 #[.pointer (some ⟨g.b,0,none⟩)] w (ClnJ w T):=by
 have HN:=za (zcA h hv);obtain ⟨A,c,e,hr⟩:=h.term;have s1:w.cell? ⟨g.b,3,none⟩=some (.slice A T.length c):=by rw [← e];exact h.cell 3 (by decide) _ rfl
 have HC:=za (zei w A c T (by omega) hr);clear h hv hr e;go_enter Tryz.func26, Tryz.ntmps26;go_wp2_with (first | (go_at_call 58;refine HN.out.mono ?_;rintro e w9 ⟨rfl,rfl⟩) | (go_at_call 42;refine HC.out.mono ?_;rintro e w9 ⟨⟨A',c',rfl,hr9,hb9⟩,hj⟩))
 all_goals
  go_ret;exact ⟨⟨A',c',rfl,hr9,hb9⟩,hj⟩
theorem term_at (h:SsAt w D E g N n lo hi tv T k C1 C2 C3 P1 P2 P3) (hv:zC N=true) (hl:T.length≤1000000):Calls Tryz.prog 26 #[.pointer (some ⟨g.b,0,none⟩)] w (ClnI w T):=(term_own h hv hl).mono fun e w' h=>h.1
end
end Go.Proofs.YtoljkoifgnmbgaaGreatDoor
end
section
open Go Go.RowKit Cs
namespace Go.Proofs.YtoljkoifgnmbgaaGreatDoor
abbrev gm (N:Nt) (n:Nat) (T:List Int):List Nat:=(RL n (qC n T) (qE n T)).all (own N.l) N.l
abbrev jK (N:Nt) (n:Nat) (lo hi:List Pr) (T:List Int):List Pr:=(RP n (qk n lo T) (qm n hi T)).all (own N.l) N.l
abbrev y6 (w:World) (D E:Nat) (g:Sg) (N:Nt) (n:Nat) (lo hi:List Pr) (tv:Value) (T:List Int) (k:Int):Prop :=
 SsAt w D E g N n lo hi tv T k (qC n T) (qE n T) (gm N n T) (qk n lo T) (qm n hi T) (jK N n lo hi T)
structure SesOk (N:Nt) (n:Nat) (lo hi:List Pr) (T:List Int) (D:Nat):Prop where
 hv:zC N=true
 hd:qv N=true
 hs:qQ N=true
 hn:N.n=(n:Int)
 wt:WtIn n lo hi
 hb:¬ 16384<zG lo n+zG hi n
 tk:TOk n T
 tl:T.length≤1000000
 tb:1<D
section
variable {w:World} {D E:Nat} {g:Sg} {N:Nt} {n:Nat} {lo hi:List Pr} {tv:Value} {T:List Int} {k:Int}
theorem SesOk.wok (h:SesOk N n lo hi T D) (S:List Int):WtOk n (qk n lo S) (qm n hi S):=h.wt.okT h.hb S
theorem SesOk.c8 (h:SesOk N n lo hi T D) (S:List Int) (j:Nat):n8 ((gm N n S).getD j 0)≤100000:=n8_s (zgQ zek zel h.hs j)
theorem SesOk.w8 (h:SesOk N n lo hi T D) (S:List Int) (j:Nat):Sp ((jK N n lo hi S).getD j (0,0)):=by
 have e:jK N n lo hi S=scan ((RP n (qk n lo S) (qm n hi S)).step (own N.l)) [] (N.l.take N.l.length):=by rw [List.take_length];rfl
 rw [e];exact p_at (h.wok S) h.hv h.hd h.hs h.hn N.l.length (zi _) j
theorem Agr.whole {α:Type} {R S:Rg α} {v:Nat} (h:Agr R S v) (h1:1≤v) {N:Nt} (hv:zC N=true) (j:Nat) (hj:j<N.l.length) (hb:((own N.l).getD j 0).testBit (v-1)=false) :
  (R.all (own N.l) N.l).getD j R.zero=(S.all (own N.l) N.l).getD j S.zero:=by
 have:=h.at h1 hv N.l.length (zi _) j hj hb;rw [List.take_length] at this;exact this
theorem pf (w:World) (l:Int) (hl:0<l) (h:SsAt w D E g N n lo hi tv (T++[l]) k (qC n T) (qE n T) (gm N n T) (qk n lo T) (qm n hi T) (jK N n lo hi T)) (ok:SesOk N n lo hi (T++[l]) D) (hT:Tab w) :
  Calls Tryz.prog 59 #[.pointer (some ⟨g.b,0,none⟩),.int .i64 (-(l.natAbs:Int)),.bool true] w fun e w'=>e = .returned (.tuple #[])∧y6 w' D E g N n lo hi tv (T++[l]) (qY N l.natAbs:Nat)∧Keep (g.b::g.rows) w w':=by
 obtain ⟨hv1,hv2⟩:=ok.tk.last;have hout:=ok.tk.out.1;have eC:qC n (T++[l])=(qC n T).set l.natAbs 0:=(cLo_snoc hl);have eC2:qE n (T++[l])=qE n T:=(zkF hl);have eW:qk n lo (T++[l])=(qk n lo T).set l.natAbs (0,0):=(wLo_snoc hl);have eW2:qm n hi (T++[l])=qm n hi T:=(zjG hl);have:=zjP w l.natAbs 0 (0,0) true h hT ok.tb ok.hv ok.hd ok.hs ok.hn hv1 hv2 rfl rfl
  (fun k=>by rw [← eC];exact zek k) (fun k=>by rw [← eC2];exact zel k)
  (by rw [← eW,← eW2];exact ok.wok (T++[l])) (fun k=>by rw [← eW];exact zcU Sp.zero ok.wt.sl k) (fun k=>by rw [← eW2];exact zcV Sp.zero ok.wt.sh k)
  (gm N n (T++[l])) (jK N n lo hi (T++[l])) (by rw [← eC,← eC2]) (by rw [← eW,← eW2]) (ok.c8 _) (ok.w8 _)
  (fun j hj hb=>Agr.whole (agrC n T l) hv1 ok.hv j hj hb) (fun j hj hb=>Agr.whole (agrW n lo hi T l) hv1 ok.hv j hj hb)
 rw [← eC,← eC2,← eW,← eW2] at this;exact this
theorem pg (w:World) (l:Int) (hl:l<0) (h:SsAt w D E g N n lo hi tv (T++[l]) k (qC n T) (qE n T) (gm N n T) (qk n lo T) (qm n hi T) (jK N n lo hi T)) (ok:SesOk N n lo hi (T++[l]) D) (hT:Tab w) :
  Calls Tryz.prog 59 #[.pointer (some ⟨g.b,0,none⟩),.int .i64 (l.natAbs:Int),.bool true] w fun e w'=>e = .returned (.tuple #[])∧y6 w' D E g N n lo hi tv (T++[l]) (qY N l.natAbs:Nat)∧Keep (g.b::g.rows) w w':=by
 obtain ⟨hv1,hv2⟩:=ok.tk.last;have hout:=ok.tk.out.1;have eC:qE n (T++[l])=(qE n T).set l.natAbs 0:=(cHi_snoc hl);have eC2:qC n (T++[l])=qC n T:=(zkE hl);have eW:qm n hi (T++[l])=(qm n hi T).set l.natAbs (0,0):=(wHi_snoc hl);have eW2:qk n lo (T++[l])=qk n lo T:=(zjF hl);have:=zjO w l.natAbs 0 (0,0) true h hT ok.tb ok.hv ok.hd ok.hs ok.hn hv1 hv2 rfl rfl
  (fun k=>by rw [← eC2];exact zek k) (fun k=>by rw [← eC];exact zel k)
  (by rw [← eW,← eW2];exact ok.wok (T++[l])) (fun k=>by rw [← eW2];exact zcU Sp.zero ok.wt.sl k) (fun k=>by rw [← eW];exact zcV Sp.zero ok.wt.sh k)
  (gm N n (T++[l])) (jK N n lo hi (T++[l])) (by rw [← eC,← eC2]) (by rw [← eW,← eW2]) (ok.c8 _) (ok.w8 _)
  (fun j hj hb=>Agr.whole (agrC n T l) hv1 ok.hv j hj hb) (fun j hj hb=>Agr.whole (agrW n lo hi T l) hv1 ok.hv j hj hb)
 rw [← eC,← eC2,← eW,← eW2] at this;exact this
theorem popP_set (w:World) (l:Int) (hl:0<l) (h:SsAt w D E g N n lo hi tv T k (qC n (T++[l])) (qE n (T++[l])) (gm N n (T++[l])) (qk n lo (T++[l])) (qm n hi (T++[l])) (jK N n lo hi (T++[l]))) (ok:SesOk N n lo hi (T++[l]) D) (hT:Tab w) :
  Calls Tryz.prog 59 #[.pointer (some ⟨g.b,0,none⟩),.int .i64 (-(l.natAbs:Int)),.bool false] w fun e w'=>e = .returned (.tuple #[])∧y6 w' D E g N n lo hi tv T (qY N l.natAbs:Nat)∧Keep (g.b::g.rows) w w':=by
 obtain ⟨hv1,hv2⟩:=ok.tk.last;have hout:=ok.tk.out.1;have eC:qC n T=(qC n (T++[l])).set l.natAbs 1:=(cLo_back hl hout);have eC2:qE n T=qE n (T++[l]):=(zkF hl).symm;have eW:qk n lo T=(qk n lo (T++[l])).set l.natAbs (lo.getD l.natAbs (0,0)):=(wLo_back hl hout);have eW2:qm n hi T=qm n hi (T++[l]):=(zjG hl).symm;have:=zjP w l.natAbs 1 (lo.getD l.natAbs (0,0)) false h hT ok.tb ok.hv ok.hd ok.hs ok.hn hv1 hv2 rfl rfl
  (fun k=>by rw [← eC];exact zek k) (fun k=>by rw [← eC2];exact zel k)
  (by rw [← eW,← eW2];exact ok.wok T) (fun k=>by rw [← eW];exact zcU Sp.zero ok.wt.sl k) (fun k=>by rw [← eW2];exact zcV Sp.zero ok.wt.sh k)
  (gm N n T) (jK N n lo hi T) (by rw [← eC,← eC2]) (by rw [← eW,← eW2]) (ok.c8 _) (ok.w8 _)
  (fun j hj hb=>Agr.whole (Agr.symm (agrC n T l)) hv1 ok.hv j hj hb) (fun j hj hb=>Agr.whole (Agr.symm (agrW n lo hi T l)) hv1 ok.hv j hj hb)
 rw [← eC,← eC2,← eW,← eW2] at this;exact this
theorem popN_set (w:World) (l:Int) (hl:l<0) (h:SsAt w D E g N n lo hi tv T k (qC n (T++[l])) (qE n (T++[l])) (gm N n (T++[l])) (qk n lo (T++[l])) (qm n hi (T++[l])) (jK N n lo hi (T++[l]))) (ok:SesOk N n lo hi (T++[l]) D) (hT:Tab w) :
  Calls Tryz.prog 59 #[.pointer (some ⟨g.b,0,none⟩),.int .i64 (l.natAbs:Int),.bool false] w fun e w'=>e = .returned (.tuple #[])∧y6 w' D E g N n lo hi tv T (qY N l.natAbs:Nat)∧Keep (g.b::g.rows) w w':=by
 obtain ⟨hv1,hv2⟩:=ok.tk.last;have hout:=ok.tk.out.1;have eC:qE n T=(qE n (T++[l])).set l.natAbs 1:=(cHi_back hl hout);have eC2:qC n T=qC n (T++[l]):=(zkE hl).symm;have eW:qm n hi T=(qm n hi (T++[l])).set l.natAbs (hi.getD l.natAbs (0,0)):=(wHi_back hl hout);have eW2:qk n lo T=qk n lo (T++[l]):=(zjF hl).symm;have:=zjO w l.natAbs 1 (hi.getD l.natAbs (0,0)) false h hT ok.tb ok.hv ok.hd ok.hs ok.hn hv1 hv2 rfl rfl
  (fun k=>by rw [← eC2];exact zek k) (fun k=>by rw [← eC];exact zel k)
  (by rw [← eW,← eW2];exact ok.wok T) (fun k=>by rw [← eW2];exact zcU Sp.zero ok.wt.sl k) (fun k=>by rw [← eW];exact zcV Sp.zero ok.wt.sh k)
  (gm N n T) (jK N n lo hi T) (by rw [← eC,← eC2]) (by rw [← eW,← eW2]) (ok.c8 _) (ok.w8 _)
  (fun j hj hb=>Agr.whole (Agr.symm (agrC n T l)) hv1 ok.hv j hj hb) (fun j hj hb=>Agr.whole (Agr.symm (agrW n lo hi T l)) hv1 ok.hv j hj hb)
 rw [← eC,← eC2,← eW,← eW2] at this;exact this
theorem push_set (w:World) (l m:Int) (hm:m = -l) (h:SsAt w D E g N n lo hi tv (T++[l]) k (qC n T) (qE n T) (gm N n T) (qk n lo T) (qm n hi T) (jK N n lo hi T)) (ok:SesOk N n lo hi (T++[l]) D) (hT:Tab w) :
  Calls Tryz.prog 59 #[.pointer (some ⟨g.b,0,none⟩),.int .i64 m,.bool true] w fun e w'=>e = .returned (.tuple #[])∧y6 w' D E g N n lo hi tv (T++[l]) (qY N l.natAbs:Nat)∧Keep (g.b::g.rows) w w':=by
 obtain ⟨hv1,hv2⟩:=ok.tk.last;by_cases hl:0<l
 ·have e:m = -(l.natAbs:Int):=by omega
  rw [e];exact pf w l hl h ok hT
 ·have e:m=(l.natAbs:Int):=by omega
  rw [e];exact pg w l (by omega) h ok hT
theorem pop_set (w:World) (l m:Int) (hm:m = -l) (h:SsAt w D E g N n lo hi tv T k (qC n (T++[l])) (qE n (T++[l])) (gm N n (T++[l])) (qk n lo (T++[l])) (qm n hi (T++[l])) (jK N n lo hi (T++[l]))) (ok:SesOk N n lo hi (T++[l]) D) (hT:Tab w) :
  Calls Tryz.prog 59 #[.pointer (some ⟨g.b,0,none⟩),.int .i64 m,.bool false] w fun e w'=>e = .returned (.tuple #[])∧y6 w' D E g N n lo hi tv T (qY N l.natAbs:Nat)∧Keep (g.b::g.rows) w w':=by
 obtain ⟨hv1,hv2⟩:=ok.tk.last;by_cases hl:0<l
 ·have e:m = -(l.natAbs:Int):=by omega
  rw [e];exact popP_set w l hl h ok hT
 ·have e:m=(l.natAbs:Int):=by omega
  rw [e];exact popN_set w l (by omega) h ok hT
end
end Go.Proofs.YtoljkoifgnmbgaaGreatDoor
end
section
open Go Go.RowKit Cs
namespace Go.Proofs.YtoljkoifgnmbgaaGreatDoor
theorem j8 {s:ByteArray} {q:Rat} (h:rdO s=some q) (hs:s.size≤9):qn q<10^9∧q.den<10^9:=by
 obtain ⟨h0,e,_,_⟩:=zhi h;unfold jd at e;by_cases hd:q.den=1
 ·rw [if_pos hd] at e;rw [e] at hs;exact ⟨gi _ _ hs,by rw [hd];decide⟩
 ·rw [if_neg hd] at e;have:s.size=(zj (qn q)).size+1+(zj q.den).size:=by rw [e,ByteArray.size_append,ByteArray.size_append];rfl
  exact ⟨gi _ _ (by omega),gi _ _ (by omega)⟩
theorem og {V:Nat} (h:V<10^9):n8 V≤4:=(jv 4 V).2 (Nat.lt_of_lt_of_le h (by decide))
theorem zez {L:List ByteArray} (h:qx L L.length) (k:Nat):Lp ((prL L).getD k (0,0))∧n8 ((prL L).getD k (0,0)).1≤4∧n8 ((prL L).getD k (0,0)).2≤4:=by
 by_cases hk:k<L.length
 ·rw [zf7 L k hk];obtain ⟨⟨q,hq⟩,hs⟩:=h k hk;obtain ⟨h1,h2⟩:=j8 hq hs;have e:prT (L.getD k ⟨#[]⟩)=(qn q,q.den):=zdZ hq rfl;rw [e];exact ⟨Lp.pq (zhi hq).1,og h1,og h2⟩
 ·have:(prL L).getD k (0,0)=(0,0):=by
   rw [List.getD_eq_getElem?_getD,List.getElem?_eq_none (by unfold prL;rw [List.length_map];omega)];rfl
  rw [this];exact ⟨Lp.zero,by decide +kernel,by decide +kernel⟩
theorem okL_in {n:Nat} {lo hi:List ByteArray} (h1:qx lo lo.length) (h2:qx hi hi.length) (hl:lo.length=n+1) (hh:hi.length=n+1):WtIn n (prL lo) (prL hi):=by
 have e:∀ L:List ByteArray,(prL L).length=L.length:=fun L=>by unfold prL;rw [List.length_map]
 refine ⟨(e lo).trans hl,(e hi).trans hh,fun k=>(zez h1 k).1,fun k=>(zez h2 k).1,?_,?_,fun k=>?_,fun k=>?_⟩
 ·have:=zez h1 0;exact ⟨by omega,by omega⟩
 ·have:=zez h2 0;exact ⟨by omega,by omega⟩
 ·have:=zez h1 k;exact ⟨by omega,by omega⟩
 ·have:=zez h2 k;exact ⟨by omega,by omega⟩
def xm (N:Nt) (lo hi:List ByteArray):Prop:=(qx lo lo.length∧qx hi hi.length)∧(lo.length≤140∧hi.length≤140)∧ju N (prL lo) (prL hi)=0
theorem zfl {N:Nt} {lo hi:List ByteArray} {D:Nat} (h:xm N lo hi) (hD:1<D):∃ n:Nat,N.n=(n:Int)∧lo.length=n+1∧hi.length=n+1∧SesOk N n (prL lo) (prL hi) [] D:=by
 obtain ⟨⟨h1,h2⟩,_,h3⟩:=h;have e:∀ L:List ByteArray,(prL L).length=L.length:=fun L=>by unfold prL;rw [List.length_map]
 unfold ju at h3;by_cases hc:zC N=true∧((prL lo).length:Int)=N.n+1∧((prL hi).length:Int)=N.n+1
 ·rw [if_pos hc] at h3;obtain ⟨hv,e1,e2⟩:=hc;rw [e] at e1 e2;obtain ⟨hn0,hn1,hl0,hl1⟩:=qD hv;obtain ⟨n,hn⟩:∃ n:Nat,N.n=(n:Int):=⟨N.n.toNat,by omega⟩;by_cases hk:qz N=0
  ·rw [if_pos hk] at h3;have hb:¬ 16384<zG (prL lo) N.n.toNat+zG (prL hi) N.n.toNat:=fun hb=>by rw [if_pos hb] at h3;exact absurd h3 (by decide)
   rw [show N.n.toNat=n by omega] at hb;obtain ⟨hd,hs⟩:=zfZ hv hk;exact ⟨n,hn,by omega,by omega,hv,hd,hs,hn,okL_in h1 h2 (by omega) (by omega),hb,TOk.nil,by decide,hD⟩
  ·rw [if_neg hk] at h3;exact absurd h3 hk
 ·rw [if_neg hc] at h3;exact absurd h3 (by decide)
end Go.Proofs.YtoljkoifgnmbgaaGreatDoor
end
section
open Go Go.RowKit Cs
namespace Go.Proofs.YtoljkoifgnmbgaaGreatDoor
theorem la_tx {n:Nat} {la:List ByteArray} (h:qx la la.length) (hl:la.length=n+1):TxAt n la (prL la):=by
 have g:∀ v,v≤n→∃ q,rdO (la.getD v ⟨#[]⟩)=some q∧(la.getD v ⟨#[]⟩).size≤9∧(prL la).getD v (0,0)=(qn q,q.den)∧qn q<10^9∧q.den<10^9∧qd q.den=q.den:=fun v hv=>by
  obtain ⟨⟨q,hq⟩,hs⟩:=h v (by omega);obtain ⟨h1,h2⟩:=j8 hq hs;exact ⟨q,hq,hs,by rw [zf7 la v (by omega)];exact zdZ hq rfl,h1,h2,yE q.den_pos⟩
 refine ⟨hl,fun v _ h2=>?_,fun v _ h2=>?_,fun v _ h2=>?_,fun v _ h2=>?_⟩
 ·obtain ⟨q,hq,_,e,_,_,ed⟩:=g v h2;rw [e];simp only;rw [ed];exact PT.read hq
 ·obtain ⟨q,_,hs,_⟩:=g v h2;omega
 ·obtain ⟨q,_,_,e,hq,_⟩:=g v h2;rw [e];exact Nat.le_trans (zbW _ 9 hq (by decide)) (by decide)
 ·obtain ⟨q,_,_,e,_,hq,ed⟩:=g v h2;rw [e];simp only;rw [ed];exact Nat.le_trans (zbW _ 9 hq (by decide)) (by decide)
theorem rnew_any (w:World) (N:Nt) (A Al Ah:Option Addr) (c cl ch:Nat) (la lh:List ByteArray) (hlen:N.l.length≤140737488355328) (hN:NtAt w w.heap.size A N.l)
  (hoa:qx la la.length) (hoh:qx lh lh.length) (hrl:Rd w w.heap.size Al la.length (qW la)) (hrh:Rd w w.heap.size Ah lh.length (qW lh)) :
  Calls Tryz.prog 16 #[ql N A c,.slice Al la.length cl,.slice Ah lh.length ch] w fun e w'=>Below w.heap.size w w'∧∃ (p:Value) (R:Int),e = .returned (.tuple #[p,.int .i64 R])∧R=ju N (prL la) (prL lh) ∧
   ((R=0∧∃ g,p = .pointer (some ⟨g,0,none⟩)∧w.heap.size≤g∧w'.rowIs g 104 6 (zE #[.int .i64 N.n,.slice A N.l.length c,.slice Al la.length cl,.slice Ah lh.length ch,.slice none 0 0,.int .i64 0])) ∨
    (R≠0∧p = .pointer none)):=by
 have el:∀ L:List ByteArray,(prL L).length=L.length:=fun L=>by unfold prL;rw [List.length_map]
 have hno:∀ R:Int,R≠0→R=ju N (prL la) (prL lh)→((zC N=false∧R=1)∨(zC N=true∧¬ (la.length:Int)=N.n+1∧R=1)∨(zC N=true∧(la.length:Int)=N.n+1∧¬ (lh.length:Int)=N.n+1∧R=1) ∨
   (zC N=true∧(la.length:Int)=N.n+1∧(lh.length:Int)=N.n+1∧qz N≠0∧R=qz N) ∨
   (zC N=true∧(la.length:Int)=N.n+1∧(lh.length:Int)=N.n+1∧qz N=0∧R=2∧∀ W,Below w.heap.size w W→Calls Tryz.prog 54 #[.slice Al la.length cl,.slice Ah lh.length ch] W fun e w'=>e = .returned (.bool true)∧Below W.heap.size W w')) →
   Calls Tryz.prog 16 #[ql N A c,.slice Al la.length cl,.slice Ah lh.length ch] w fun e w'=>Below w.heap.size w w'∧∃ (p:Value) (R:Int),e = .returned (.tuple #[p,.int .i64 R])∧R=ju N (prL la) (prL lh) ∧
   ((R=0∧∃ g,p = .pointer (some ⟨g,0,none⟩)∧w.heap.size≤g∧w'.rowIs g 104 6 (zE #[.int .i64 N.n,.slice A N.l.length c,.slice Al la.length cl,.slice Ah lh.length ch,.slice none 0 0,.int .i64 0])) ∨
    (R≠0∧p = .pointer none)):=fun R h0 hR h=>by
  refine (rnew_no w N A Al Ah c cl ch la.length lh.length R hlen hN h).mono ?_;rintro e w' ⟨rfl,hb⟩;exact ⟨hb,_,R,rfl,hR,Or.inr ⟨h0,rfl⟩⟩
 by_cases hok:zC N=true∧(la.length:Int)=N.n+1∧(lh.length:Int)=N.n+1
 ·have hw:ju N (prL la) (prL lh)=if qz N=0 then (if 16384<zG (prL la) N.n.toNat+zG (prL lh) N.n.toNat then 2 else 0) else qz N:=by
   unfold ju;rw [el,el,if_pos hok]
  rw [hw] at hno ⊢;obtain ⟨hv,e1,e2⟩:=hok;obtain ⟨hn0,hn1,_,_⟩:=qD hv;have hn:N.n=((N.n.toNat:Nat):Int):=by omega
  have l1:la.length=N.n.toNat+1:=by omega
  have l2:lh.length=N.n.toNat+1:=by omega
  by_cases hc:qz N=0
  ·rw [if_pos hc] at hno ⊢;have hhv:∀ W,Below w.heap.size w W→Calls Tryz.prog 54 #[.slice Al la.length cl,.slice Ah lh.length ch] W fun e w'=>e = .returned (.bool (decide (16384<zG (prL la) N.n.toNat+zG (prL lh) N.n.toNat)))∧Below W.heap.size W w':=fun W hb=>by
    rw [l1] at hrl ⊢;rw [l2] at hrh ⊢;exact zlf W N.n.toNat (by omega) la lh (prL la) (prL lh) Al Ah cl ch (la_tx hoa l1) (la_tx hoh l2) ((hrl.below hb).more hb.size) ((hrh.below hb).more hb.size)
   by_cases hh:16384<zG (prL la) N.n.toNat+zG (prL lh) N.n.toNat
   ·rw [if_pos hh] at hno ⊢;rw [decide_eq_true hh] at hhv;exact hno 2 (by decide) rfl (.inr (.inr (.inr (.inr ⟨hv,e1,e2,hc,rfl,hhv⟩))))
   ·rw [if_neg hh];rw [decide_eq_false hh] at hhv;refine (rnew_ok w N A Al Ah c cl ch la.length lh.length hlen hN hv e1 e2 hc hhv).mono ?_;rintro e w' ⟨g,rfl,hg,hr,hb⟩;exact ⟨hb,_,0,rfl,rfl,Or.inl ⟨rfl,g,rfl,hg,hr⟩⟩
  ·rw [if_neg hc] at hno ⊢;exact hno _ hc rfl (.inr (.inr (.inr (.inl ⟨hv,e1,e2,hc,rfl⟩))))
 ·have hw:ju N (prL la) (prL lh)=1:=by
   unfold ju;rw [el,el,if_neg hok]
  rw [hw] at hno ⊢;refine hno 1 (by decide) rfl ?_;cases hv:zC N
  ·exact .inl ⟨rfl,rfl⟩
  ·by_cases e1:(la.length:Int)=N.n+1
   ·exact .inr (.inr (.inl ⟨rfl,e1,fun e2=>hok ⟨hv,e1,e2⟩,rfl⟩))
   ·exact .inr (.inl ⟨rfl,e1,rfl⟩)
end Go.Proofs.YtoljkoifgnmbgaaGreatDoor
end
