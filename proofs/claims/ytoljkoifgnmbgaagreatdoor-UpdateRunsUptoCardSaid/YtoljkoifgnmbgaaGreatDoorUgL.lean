/- UpdateRuns, for every argument: the law returns true, and its arguments read as they did; the table of math/bits that the row lists is tied to the program's text by the card. -/
import Derived.Test.YtoljkoifgnmbgaaGreatDoorUg
import Derived.Test.YtoljkoifgnmbgaaGreatDoorO5
set_option linter.unusedSimpArgs false
set_option linter.unusedVariables false
set_option maxRecDepth 100000
open Go Go.RowKit Cs Go.ChangeShapes Go.WideShapes Go.ChangeAt
namespace Go.Proofs.YtoljkoifgnmbgaaGreatDoor.lawUpdateRunsUpto
theorem contract (H:Type) (enc:TypeId×Value→H) (W:World) (base:Nat) (args:Array Value) (ds gs:List (DataW H)) (before:List MemPlace)
  (hval:∀ (j:Nat) t v, Tryz.f4.params[j]?=some t→args[j]?=some v→Value.okWide Tryz.prog W .any base t v)
  (hW:DataW.Whole enc Tryz.prog Tryz.f4.params.toList Rows.updateRunsSpec.vars false W args.toList ds gs before)
  (hsz:(DataW.weightsEach Tryz.prog (Tryz.f4.params.toList++(Rows.OpenSpec.upto Rows.updateRunsSpec).bare.plain.varTypes Tryz.prog) (ds++gs)).all (·≤reachBytes)=true) (hk:Rows.uptoSmall H (ds++gs)=true)
  (hL:laidMetH Tryz.prog Rows.updateRunsUptoRow.laid W) :
  Calls Tryz.prog 4 args W fun e W'=>∃ v,e = .returned v∧Rows.updateRunsSpec.post enc Tryz.prog Tryz.f4 false true false false W args v W':=by
 have hW':=hW;obtain ⟨p,q,hA0,hV,rfl,hfz,hnd⟩:=hW;have hA:DataW.TrodAll enc Tryz.prog W 0 (fun _=>true) true Tryz.f4.params.toList args.toList ds p:=hA0;rw [Tryz.params4] at hA hval;obtain ⟨v0,vs0,d0,ds0,p0,q0,hargs,rfl,rfl,h0,r0⟩:=trodAll_cons hA;obtain ⟨v1,vs1,d1,ds1,p1,q1,rfl,rfl,rfl,h1,r1⟩:=trodAll_cons r0;obtain ⟨v2,vs2,d2,ds2,p2,q2,rfl,rfl,rfl,h2,r2⟩:=trodAll_cons r1;obtain ⟨v3,vs3,d3,ds3,p3,q3,rfl,rfl,rfl,h3,r3⟩:=trodAll_cons r2;obtain ⟨rfl,rfl,rfl⟩:=trodAll_nil r3;obtain rfl:args=#[v0,v1,v2,v3]:=by cases args;simp_all
 obtain ⟨rfl,rfl⟩:=trodVars_none hV;have hw0:∀ n∈d0.weights Tryz.prog 24,n≤reachBytes:=fun n hn=>by
  have:=List.all_eq_true.1 hsz n (DataW.weights_mem_each (j:=0) (t:=24) (d:=d0) (by rw [Tryz.params4];rfl) rfl n hn);simpa using this
 simp only [List.append_nil] at hW';have hlt:∀ x∈p0++(p1++(p2++p3)),x.block<W.heap.size:=fun x hx=>hW'.lt x hx;have hub0:Rows.uptoBulk d0≤1048576:=zd4 hk (by simp);obtain ⟨N0,A0,c0,rfl,hlen0,hN0,hr0⟩:=open_net (hval 0 24 v0 rfl rfl) h0 hw0;have hub1:Rows.uptoBulk d1≤1048576:=zd4 hk (by simp);obtain ⟨L1,A1,c1,rfl,hbk1,hr1,hsz1⟩:=ziu (hval 1 27 v1 rfl rfl) h1;have hub2:Rows.uptoBulk d2≤1048576:=zd4 hk (by simp);obtain ⟨L2,A2,c2,rfl,hbk2,hr2,hsz2⟩:=ziu (hval 2 27 v2 rfl rfl) h2;have hub3:Rows.uptoBulk d3≤1048576:=zd4 hk (by simp);obtain ⟨L3,A3,c3,rfl,hr3,hzr3⟩:=pm (hval 3 41 v3 rfl rfl) h3;refine (xD W c0 c1 c2 c3 ⟨hN0,tab_of hL,hr1,hr2,hr3⟩ ⟨hlen0,by have:=hbk1 hub1;omega,by have:=hbk2 hub2;omega,hsz1,hsz2,hzr3⟩).mono fun e W' ⟨he,hb⟩=>?_;subst he;exact ⟨_,rfl,post_law hW' (fun _ _ _=>trodAll_cons_mk (shut_bool Tryz.underlying4 _) trodAll_mk0)
  (fun sp hsp=>by
    have:=(trodAll_cons_mk (zdO zfa (by kernel_rfl) (of_decide_eq_true (by kernel_rfl)) h0 hb (fun x hx=>hlt x (List.mem_append.2 (.inl hx))) (fun x hx=>hsp x (List.mem_append.2 (.inl hx)))) (trodAll_cons_mk (zdO zfa (by kernel_rfl) (of_decide_eq_true (by kernel_rfl)) h1 hb (fun x hx=>hlt x (List.mem_append.2 (.inr (List.mem_append.2 (.inl hx))))) (fun x hx=>hsp x (List.mem_append.2 (.inr (List.mem_append.2 (.inl hx)))))) (trodAll_cons_mk (zdO zfa (by kernel_rfl) (of_decide_eq_true (by kernel_rfl)) h2 hb (fun x hx=>hlt x (List.mem_append.2 (.inr (List.mem_append.2 (.inr (List.mem_append.2 (.inl hx))))))) (fun x hx=>hsp x (List.mem_append.2 (.inr (List.mem_append.2 (.inr (List.mem_append.2 (.inl hx)))))))) (trodAll_cons_mk (zdO zfa (by kernel_rfl) (of_decide_eq_true (by kernel_rfl)) h3 hb (fun x hx=>hlt x (List.mem_append.2 (.inr (List.mem_append.2 (.inr (List.mem_append.2 (.inr hx))))))) (fun x hx=>hsp x (List.mem_append.2 (.inr (List.mem_append.2 (.inr (List.mem_append.2 (.inr hx)))))))) (trodAll_mk0 (enc:=enc) (P:=Tryz.prog) (w:=W') (base:=0) (spare:=sp) (held:=true))))));show DataW.TrodAll enc Tryz.prog W' 0 sp true [24, 27, 27, 41] [ql N0 A0 c0,.slice A1 L1.length c1,.slice A2 L2.length c2,.slice A3 L3.length c3] [d0,d1,d2,d3] (p0++(p1++(p2++p3)));simpa using this)
  (fun _=>rfl) hb (ok_one (by kernel_rfl) rfl (okWide_bool_mk Tryz.underlying4 _))⟩
theorem laid_met (os:Os):laidMet Tryz.prog Rows.updateRunsUptoRow.laid ((laidWorld os).forCall (fun _ _=>0) ⟨#[],#[.agg #[.int .i64 0,.slice none 0 0],.slice none 0 0,.slice none 0 0,.slice none 0 0],[]⟩).memory :=
 laidMet_of_run' 8 (by kernel_rfl) (by kernel_rfl)
theorem reads (os:Os) {H:Type} (enc:TypeId×Value→H):∃ places,DataW.whole enc Tryz.prog ((laidWorld os).forCall (fun _ _=>0) ⟨#[],#[.agg #[.int .i64 0,.slice none 0 0],.slice none 0 0,.slice none 0 0,.slice none 0 0],[]⟩).memory Tryz.f4.params.toList Rows.updateRunsSpec.vars false (#[.agg #[.int .i64 0,.slice none 0 0],.slice none 0 0,.slice none 0 0,.slice none 0 0]:Array Value).toList 8=some ([.agg [.lit (.int .i64 0),.nil],.nil,.nil,.nil],[],places) :=
 ⟨[],by kernel_rfl⟩
theorem lifted (os:Os) (started:os.Started) (H:Type) (enc:TypeId×Value→H) (F:Stop.Interp) :
  ReturnsInHanded {} Tryz.checked os 4 .any ((Rows.OpenSpec.upto Rows.updateRunsSpec).preRow enc Tryz.prog Tryz.f4 Rows.updateRunsUptoRow.domain false Rows.updateRunsUptoRow.laid) (((Rows.OpenSpec.upto Rows.updateRunsSpec).at F).post enc Tryz.prog Tryz.f4 false true false false):=by
 obtain ⟨places,hx⟩:=reads os enc;refine returnsInHanded_of_row (C:=Tryz.checked) (s:=(Rows.OpenSpec.upto Rows.updateRunsSpec)) ownA started (by kernel_rfl) Tryz.func4
  (witness_row_at (enc:=enc) (C:=Tryz.checked) false (laidWorld os) #[.agg #[.int .i64 0,.slice none 0 0],.slice none 0 0,.slice none 0 0,.slice none 0 0] rfl (by kernel_rfl) (by kernel_rfl) (by kernel_rfl)
    (OpenSpec.preRow_of_cond 8 hx (by kernel_rfl) (fun k hk=>by cases hk;kernel_rfl) (by kernel_rfl) (laid_met os))) ?_
 intro W base args ds gs before hval hW _ hcond hsz hL _ _;exact contract H enc W base args ds gs before hval hW hsz (hcond _ rfl) hL
theorem said:Rows.UpdateRunsUptoSaid :=
 OpenClaim.holds_of_cond 4 Tryz.f4 rfl rfl rfl rfl rfl rfl rfl ⟨rfl,rfl,rfl,rfl,rfl⟩ rfl rfl rfl rfl rfl (by kernel_rfl) Tryz.func4 (by kernel_rfl)
  (of_decide_eq_true (by kernel_rfl)) (by unfold Func.isWrapper;first | (rw [if_pos (by decide +kernel)];kernel_rfl) | (rw [if_neg (by decide +kernel)];exact ⟨rfl,rfl⟩))
  (fun os started H enc _ F=>by rw [OpenClaim.pre_eq_preRow];exact lifted os started H enc F)
theorem plain (f:FuncId) (fn:Func) (hf:Tryz.pinned.checked.prog.funcNamed "census/censuslaw44.UpdateRuns"=some f) (hfn:Tryz.pinned.checked.prog.funcs[f]?=some fn) :
  false=Tryz.pinned.checked.prog.looks []∧∀ (j:Nat) t,fn.params[j]?=some t→Tryz.pinned.checked.prog.wantsStandIn t=false:=by
 obtain rfl:f=4:=Option.some.inj ((show Tryz.prog.funcNamed "census/censuslaw44.UpdateRuns"=some 4 by kernel_rfl).symm.trans hf) |>.symm;obtain rfl:fn=Tryz.f4:=(Option.some.inj (Tryz.func4.symm.trans hfn)).symm;refine ⟨by kernel_rfl,fun j t ht=>?_⟩;rw [Tryz.params4] at ht;have hm:t=24∨t=27∨t=41:=by simpa using Array.mem_of_getElem? ht
 rcases hm with rfl | rfl | rfl
 ·exact (show Tryz.prog.wantsStandIn 24=false by kernel_rfl)
 ·exact (show Tryz.prog.wantsStandIn 27=false by kernel_rfl)
 ·exact (show Tryz.prog.wantsStandIn 41=false by kernel_rfl)
theorem card:Rows.UpdateRunsUptoCardSaid :=
 Claim7.holds_tied_plain_at .later [] _ _ _ _ said (fun _ h=>by cases h) (by kernel_rfl) (fun _ h=>by cases h) updateRunsUpto_row_tie rfl ⟨rfl,rfl⟩ (by kernel_rfl) rfl plain (by kernel_rfl)
end Go.Proofs.YtoljkoifgnmbgaaGreatDoor.lawUpdateRunsUpto
#print axioms Go.Proofs.YtoljkoifgnmbgaaGreatDoor.lawUpdateRunsUpto.card
