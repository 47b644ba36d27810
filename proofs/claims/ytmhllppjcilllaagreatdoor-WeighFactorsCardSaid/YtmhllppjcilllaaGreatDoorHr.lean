import Derived.Test.YtmhllppjcilllaaGreatDoorHp
set_option linter.unusedSimpArgs false
set_option linter.unusedVariables false
open Go Go.RowKit Cs
namespace Go
section
variable {P : Program} {ops : Array Oper} {Q : Exit → Act → World → Prop} {md : Region.Mode}
def StepR (P : Program) (ops : Array Oper) (Iv : World → Prop) (Rl : Nat → Value → World → World → Prop) (a : Act) (Px : Nat → List Value → Value → World → Prop) (dp : Nat → List Nat) (i : Nat) : Prop :=
 ∀ o, ops[i]? = some o → ∀ (vs : Nat → Value) (w : World), Iv w → (∀ j ∈ dp i, Px j ((dp j).map vs) (vs j) w) →
  ∀ K : Act → World → Prop, Shut (∀ v w', Px i ((dp i).map vs) v w' → Rl i v w w' → K (Act.put ⟨putsT ops vs a.tmps (dp i), a.defers⟩ o.dst v) w') →
   if Region.wanted o (yielded ops (Act.mk (putsT ops vs a.tmps (dp i)) a.defers).tmps) = true then Oper.wp P o ⟨putsT ops vs a.tmps (dp i), a.defers⟩ w K (fun _ _ _ => False) else K (Act.put ⟨putsT ops vs a.tmps (dp i), a.defers⟩ o.dst undef) w
theorem StepR.wpOp {Iv : World → Prop} {Rl : Nat → Value → World → World → Prop} {a0 : Act} {Px : Nat → List Value → Value → World → Prop} {dp : Nat → List Nat} {i : Nat} {o : Oper} (h : StepR P ops Iv Rl a0 Px dp i) (ho : ops[i]? = some o) (hsel : ∀ cs b, o.op ≠ .select cs b)
  {vs : Nat → Value} {w : World} {l : List Nat} (hb : Iv w) (hd : ∀ j ∈ dp i, Px j ((dp j).map vs) (vs j) w)
  (hl : ∀ s ∈ o.looksAt ops, (putsT ops vs a0.tmps l)[s]? = (putsT ops vs a0.tmps (dp i))[s]?) {K : Act → World → Prop}
  (hK : ∀ v w', Px i ((dp i).map vs) v w' → Rl i v w w' → K (Act.put ⟨putsT ops vs a0.tmps l, a0.defers⟩ o.dst v) w') :
  Go.wpOp P ops Q i K ⟨putsT ops vs a0.tmps l, a0.defers⟩ w := by
 obtain ⟨B, hB⟩ : ∃ B : Act, B = ⟨putsT ops vs a0.tmps (dp i), a0.defers⟩ := ⟨_, rfl⟩;obtain ⟨C, hC⟩ : ∃ C : Act, C = ⟨putsT ops vs a0.tmps l, a0.defers⟩ := ⟨_, rfl⟩
 have hsz : C.tmps.size = B.tmps.size := by rw [hB, hC]; show (putsT ..).size = (putsT ..).size; rw [putsT_size, putsT_size]
 have hdf : C.defers = B.defers := by rw [hB, hC]
 have hl' : ∀ s ∈ o.looksAt ops, C.tmps[s]? = B.tmps[s]? := by rw [hB, hC]; exact hl
 have hk : ∀ u w' v, B.put o.dst u = B.put o.dst v → Px i ((dp i).map vs) v w' → Rl i v w w' → K (C.put o.dst u) w' := fun u w' v e h1 h2 => by
  rw [put_same hsz e, hC];exact hK v w' h1 h2
 have hstep := h o ho vs w hb hd (fun a' w' => ∃ v, a' = B.put o.dst v ∧ Px i ((dp i).map vs) v w' ∧ Rl i v w w')
  (fun v w' h1 h2 => ⟨v, by rw [hB], h1, h2⟩)
 rw [← hB] at hstep;rw [← hC];clear hK hl;unfold Go.wpOp;rw [ho];simp only [];rw [wanted_congr o C.tmps B.tmps hl'];split
 ·rename_i hw;rw [if_pos hw] at hstep;refine .inl ?_
  unfold Oper.wp at *
  rw [eval_congr o hsel C B hl']
  generalize (execOp B.eval o).run P w = r at *
  cases r with
  | ok n w' =>
    cases n <;> simp only [Oper.upon] at hstep ⊢
    case value u => obtain ⟨v, e, h1, h2⟩ := hstep; exact hk u w' v e h1 h2
    case skip => obtain ⟨v, e, h1, h2⟩ := hstep; exact hk _ w' v e h1 h2
    case defer d =>
     obtain ⟨v, e, _⟩ := hstep
     exfalso
     have : (Act.put { B with defers := d :: B.defers } o.dst undef).defers = (B.put o.dst v).defers := by rw [e]
     have e1 : ∀ (x : Act) (d : Option Tmp) (v : Value), (x.put d v).defers = x.defers := fun x d v => by cases d <;> rfl
     rw [e1, e1] at this;exact absurd this (List.cons_ne_self _ _)
    case enter f args =>
     refine Calls.mono hstep fun e w'' he => ?_;cases e with
     | returned u => obtain ⟨v, e, h1, h2⟩ := he; exact hk u w'' v e h1 h2
     | panicked c => exact he.elim
     | outgrown => obtain ⟨_, _, h⟩ := he; exact h.elim
    case row row args => exact Rows.mono hstep fun u w'' he => by obtain ⟨v, e, h1, h2⟩ := he; exact hk u w'' v e h1 h2
    all_goals exact hstep
  | halt x w' =>
    cases x <;> simp only [Oper.upon] at hstep
 ·rename_i hw;rw [if_neg hw] at hstep;obtain ⟨v, e, h1, h2⟩ := hstep;exact hk _ w v e h1 h2
theorem wpAny_rel_end {Cx : Nat → Nat → Value → Value → Prop} {Px : Nat → List Value → Value → World → Prop} {dp : Nat → List Nat} {L1 ex : List Nat} {Iv : World → Prop} {a0 : Act}
  (hok : Region.PropsOk md ops L1 (L1 ++ ex) dp a0.tmps.size)
  (hfin : ∀ bs : List Bool, bs.length = ex.length → ∀ (vs : Nat → Value) (w : World), Iv w → (∀ i ∈ L1 ++ pickL ex bs, Px i ((dp i).map vs) (vs i) w) → (∀ i ∈ L1 ++ pickL ex bs, ∀ j ∈ L1 ++ pickL ex bs, i ≠ j → Cx i j (vs i) (vs j)) →
    ∀ fuel, unL (listedOf ops.size (L1 ++ pickL ex bs)) ops.size ≤ fuel → wpAny P md ops Q fuel (listedOf ops.size (L1 ++ pickL ex bs)) ⟨putsT ops vs a0.tmps (L1 ++ pickL ex bs), a0.defers⟩ w)
  {fuel : Nat} {listed : Array Bool} {l : List Nat} {vs : Nat → Value} {w : World} (hz : listed.size = ops.size) (hu : unL listed ops.size ≤ fuel) (hl : ∀ i, i ∈ l ↔ listed.getD i false = true) (hA : ∀ i ∈ l, i ∈ L1 ++ ex)
  (hb : Iv w) (hp : ∀ i ∈ l, Px i ((dp i).map vs) (vs i) w) (hcx : ∀ i ∈ l, ∀ j ∈ l, i ≠ j → Cx i j (vs i) (vs j))
  (hall : ∀ i ∈ L1, listed.getD i false = true) : wpAny P md ops Q fuel listed ⟨putsT ops vs a0.tmps l, a0.defers⟩ w := by
 have hmem : ∀ i, i ∈ L1 ++ pickL ex (ex.map fun i => listed.getD i false) ↔ i ∈ l := fun i => by
  rw [pickL_map, List.mem_append, List.mem_filter, hl i]
  constructor
  ·rintro (h | h)
   ·exact hall i h
   ·exact h.2
  ·intro h;rcases List.mem_append.1 (hA i ((hl i).2 h)) with h' | h'
   ·exact .inl h'
   ·exact .inr ⟨h', h⟩
 have hli : listedOf ops.size (L1 ++ pickL ex (ex.map fun i => listed.getD i false)) = listed := by
  refine Array.ext (by simp [listedOf, hz]) fun i h1 h2 => ?_
  have e1 : (listedOf ops.size (L1 ++ pickL ex (ex.map fun i => listed.getD i false)))[i] = (L1 ++ pickL ex (ex.map fun i => listed.getD i false)).contains i := by simp [listedOf]
  rw [e1]
  have e2 : listed.getD i false = listed[i] := by simp [h2]
  rw [← e2];cases hc : listed.getD i false with
  | true => rw [List.contains_iff_mem]; exact (hmem i).2 ((hl i).2 hc)
  | false =>
    refine Bool.eq_false_iff.2 fun h => ?_;rw [List.contains_iff_mem] at h;rw [(hl i).1 ((hmem i).1 h)] at hc;cases hc
 have hact : putsT ops vs a0.tmps (L1 ++ pickL ex (ex.map fun i => listed.getD i false)) = putsT ops vs a0.tmps l := by
  refine Array.ext_getElem? fun s => ?_;by_cases hex : ∃ j, j ∈ l ∧ dstOf ops j = some s
  ·obtain ⟨j, hj, hjs⟩ := hex;have hsz := hok.dst j (hA j hj) s hjs;rw [putsT_in vs s j hjs l _ hj (fun m hm e => hok.uniq m (hA m hm) j (hA j hj) s e hjs) hsz, putsT_in vs s j hjs _ _ ((hmem j).2 hj) (fun m hm e => hok.uniq m (hA m ((hmem m).1 hm)) j (hA j hj) s e hjs) hsz]
  ·rw [putsT_out vs s l _ fun j hj e => hex ⟨j, hj, e⟩, putsT_out vs s _ _ fun j hj e => hex ⟨j, (hmem j).1 hj, e⟩]
 have h := hfin (ex.map fun i => listed.getD i false) (by simp) vs w hb (fun i hi => hp i ((hmem i).1 hi)) (fun i hi j hj => hcx i ((hmem i).1 hi) j ((hmem j).1 hj)) fuel (by rw [hli]; exact hu);rw [hli, hact] at h;exact h
theorem wpAny_rel {Cx : Nat → Nat → Value → Value → Prop} {Px : Nat → List Value → Value → World → Prop} {dp : Nat → List Nat} {L1 ex : List Nat} {Iv : World → Prop} {Rl : Nat → Value → World → World → Prop} {a0 : Act}
  (hok : Region.PropsOk md ops L1 (L1 ++ ex) dp a0.tmps.size) (hmono : ∀ i j l v v' w w', i ≠ j → Px i l v w → Rl j v' w w' → Px i l v w') (hinv : ∀ j v w w', Iv w → Rl j v w w' → Iv w')
  (hcross : ∀ i j l v v' w w', i ≠ j → Px i l v w → Rl j v' w w' → Cx i j v v' ∧ Cx j i v' v)
  (hstep : ∀ i ∈ L1 ++ ex, StepR P ops Iv Rl a0 Px dp i)
  (hfin : ∀ bs : List Bool, bs.length = ex.length → ∀ (vs : Nat → Value) (w : World), Iv w → (∀ i ∈ L1 ++ pickL ex bs, Px i ((dp i).map vs) (vs i) w) → (∀ i ∈ L1 ++ pickL ex bs, ∀ j ∈ L1 ++ pickL ex bs, i ≠ j → Cx i j (vs i) (vs j)) →
    ∀ fuel, unL (listedOf ops.size (L1 ++ pickL ex bs)) ops.size ≤ fuel → wpAny P md ops Q fuel (listedOf ops.size (L1 ++ pickL ex bs)) ⟨putsT ops vs a0.tmps (L1 ++ pickL ex bs), a0.defers⟩ w) :
  ∀ (fuel : Nat) (listed : Array Bool) (l : List Nat) (vs : Nat → Value) (w : World), listed.size = ops.size → Region.shutL md ops listed → unL listed ops.size ≤ fuel → (∀ i, i ∈ l ↔ listed.getD i false = true) → (∀ i ∈ l, i ∈ L1 ++ ex) →
   Iv w → (∀ i ∈ l, Px i ((dp i).map vs) (vs i) w) → (∀ i ∈ l, ∀ j ∈ l, i ≠ j → Cx i j (vs i) (vs j)) → wpAny P md ops Q fuel listed ⟨putsT ops vs a0.tmps l, a0.defers⟩ w := by
 intro fuel
 induction fuel with
 | zero =>
   intro listed l vs w hz hcl hu hl hA hb hp hcx;exact wpAny_rel_end hok hfin hz hu hl hA hb hp hcx fun i hi => unL_zero _ (by omega) i (hok.lt i (List.mem_append_left _ hi))
 | succ fuel ih =>
   intro listed l vs w hz hcl hu hl hA hb hp hcx;by_cases hall : ∀ i ∈ L1, listed.getD i false = true
   ·exact wpAny_rel_end hok hfin hz hu hl hA hb hp hcx hall
   ·have hall' : ∃ i, i ∈ L1 ∧ listed.getD i false = false := by
     refine Classical.byContradiction fun hne => hall fun i hi => ?_;cases hc : listed.getD i false with
     | true => rfl
     | false => exact absurd ⟨i, hi, hc⟩ hne
    obtain ⟨k, hk, hkf⟩ := hall';have hkn := hok.lt k (List.mem_append_left _ hk);refine ⟨fun hr => absurd hr (ready_ne hz hok.back hkn hkf), fun i hi => ?_⟩;have hi' := hi;obtain ⟨hun, o, ho, hafter⟩ := mem_ready.1 hi;have hin : i < ops.size := (Array.getElem?_eq_some_iff.1 ho).1
    have hunf : listed.getD i false = false := by
     have : i < listed.size := by omega
     simp [this] at hun ⊢;exact hun
    have hiA : i ∈ L1 ++ ex := by
     refine Classical.byContradiction fun hne => ?_;have := Region.coverOf_spec hcl hi (hok.last i hin hne k hk);rw [this] at hkf;cases hkf
    have hdl : ∀ j ∈ dp i, j ∈ l := fun j hj => (hl j).2 (Region.coverOf_spec hcl hi (hok.dep i hiA j hj).1)
    have hil : i ∉ l := fun h => by rw [(hl i).1 h] at hunf; cases hunf
    refine (hstep i hiA).wpOp ho (Region.noSelect_spec hok.sel i o · · ho) hb (fun j hj => hp j (hdl j hj)) (fun s hs => ?_) fun v w' h1 h2 => ?_
    ·by_cases hex : ∃ j, j ∈ l ∧ dstOf ops j = some s
     ·obtain ⟨j, hj, hjs⟩ := hex;have hjA := hA j hj;have hjd := hok.looks i hiA o ho s hs j hjA hjs;have hsz := hok.dst j hjA s hjs;rw [putsT_in vs s j hjs l _ hj (fun m hm e => hok.uniq m (hA m hm) j hjA s e hjs) hsz, putsT_in vs s j hjs (dp i) _ hjd (fun m hm e => hok.uniq m (hok.dep i hiA m hm).2 j hjA s e hjs) hsz]
     ·rw [putsT_out vs s l _ fun j hj e => hex ⟨j, hj, e⟩, putsT_out vs s (dp i) _ fun j hj e => hex ⟨j, hdl j hj, e⟩]
    ·obtain ⟨vs', hvs⟩ : ∃ vs' : Nat → Value, vs' = fun j => if j = i then v else vs j := ⟨_, rfl⟩
     have hsame : ∀ j, j ∈ l → vs' j = vs j := fun j hj => by rw [hvs]; simp only []; rw [if_neg fun e => hil (by rw [← e]; exact hj)]
     have hnew : vs' i = v := by rw [hvs]; simp
     have hmap : ∀ m, (∀ j ∈ dp m, j ∈ l) → (dp m).map vs' = (dp m).map vs := fun m hm => List.map_congr_left fun j hj => hsame j (hm j hj);have hdm : ∀ j ∈ l, ∀ m ∈ dp j, m ∈ l := fun j hj m hm => (hl m).2 (Region.coverOf_in hcl ((hl j).1 hj) (hok.dep j (hA j hj) m hm).1);have hact := puts_snoc (a0 := a0) ho hok.uniq hok.dst hA hiA hsame hnew;rw [hact];refine ih (listed.setIfInBounds i true) (l ++ [i]) vs' w' (by simp [hz]) (Region.shutL_set hcl hi') ?_ ?_ ?_ (hinv i v w w' hb h2) ?_ ?_
     ·have := (unL_set (listed := listed) (i := i) ops.size).2 hin (by omega) hunf;omega
     ·intro j;rw [List.mem_append, List.mem_singleton, hl j];by_cases e : i = j
      ·subst e
       have hlt : i < listed.size := by omega
       simp [hlt]
      ·rw [getD_set_ne false e];exact ⟨fun h => h.resolve_right (fun e' => e e'.symm), .inl⟩
     ·intro j hj;rcases List.mem_append.1 hj with hj | hj
      ·exact hA j hj
      ·simp at hj; subst hj; exact hiA
     ·intro j hj;rcases List.mem_append.1 hj with hj | hj
      ·rw [hmap j (hdm j hj), hsame j hj];exact hmono j i _ _ v w w' (fun e => hil (by rw [← e]; exact hj)) (hp j hj) h2
      ·simp at hj; subst hj
       rw [hmap j hdl, hnew];exact h1
     ·intro j hj m hm hne
      rcases List.mem_append.1 hj with hj' | hj' <;> rcases List.mem_append.1 hm with hm' | hm'
      ·rw [hsame j hj', hsame m hm'];exact hcx j hj' m hm' hne
      ·simp at hm'; subst hm'
       rw [hsame j hj', hnew];exact (hcross j m _ _ v w w' hne (hp j hj') h2).1
      ·simp at hj'; subst hj'
       rw [hsame m hm', hnew];exact (hcross m j _ _ v w w' (Ne.symm hne) (hp m hm') h2).2
      ·simp at hj' hm'; subst hj' hm'; exact absurd rfl hne
def FinR (P : Program) (ops : Array Oper) (Q : Exit → Act → World → Prop) (Iv : World → Prop) (Cx : Nat → Nat → Value → Value → Prop) (a : Act) (Px : Nat → List Value → Value → World → Prop) (dp : Nat → List Nat) (L : List Nat) : Prop :=
 ∀ (vs : Nat → Value) (w : World), Iv w → (∀ i ∈ L, Px i ((dp i).map vs) (vs i) w) → (∀ i ∈ L, ∀ j ∈ L, i ≠ j → Cx i j (vs i) (vs j)) → ∀ fuel, unL (listedOf ops.size L) ops.size ≤ fuel → wpAny P .any ops Q fuel (listedOf ops.size L) ⟨putsT ops vs a.tmps L, a.defers⟩ w
theorem FinR.intro {Iv : World → Prop} {Cx : Nat → Nat → Value → Value → Prop} {a : Act} {Px : Nat → List Value → Value → World → Prop} {dp : Nat → List Nat} {L : List Nat} (DS : List (Nat × Option Tmp)) (ARR : Array Bool) (m : Nat)
  (hds : L.map (fun j => (j, dstOf ops j)) = DS) (harr : listedOf ops.size L = ARR) (hun : unL ARR ops.size = m)
  (h : ∀ (vs : Nat → Value) (w : World), Iv w → (∀ i ∈ L, Px i ((dp i).map vs) (vs i) w) → (∀ i ∈ L, ∀ j ∈ L, i ≠ j → Cx i j (vs i) (vs j)) → ∀ k, wpAny P .any ops Q (k + m) ARR ⟨putsD vs a.tmps DS, a.defers⟩ w) : FinR P ops Q Iv Cx a Px dp L := by
 intro vs w h1 h2 h3 fuel hf;rw [harr, hun] at hf;have := h vs w h1 h2 h3 (fuel - m);rw [show fuel - m + m = fuel by omega] at this;rw [harr, putsT_D, hds];exact this
theorem StepR.intro {Iv : World → Prop} {Rl : Nat → Value → World → World → Prop} {a : Act} {Px : Nat → List Value → Value → World → Prop} {dp : Nat → List Nat} {i : Nat} {o : Oper} (ho : ops[i]? = some o) (DS : List (Nat × Option Tmp)) (hds : (dp i).map (fun j => (j, dstOf ops j)) = DS)
  (h : ∀ (vs : Nat → Value) (w : World), Iv w → (∀ j ∈ dp i, Px j ((dp j).map vs) (vs j) w) →
    ∀ K : Act → World → Prop, Shut (∀ v w', Px i ((dp i).map vs) v w' → Rl i v w w' → K (Act.put ⟨putsD vs a.tmps DS, a.defers⟩ o.dst v) w') →
     if Region.wanted o (yielded ops (Act.mk (putsD vs a.tmps DS) a.defers).tmps) = true then Oper.wp P o ⟨putsD vs a.tmps DS, a.defers⟩ w K (fun _ _ _ => False) else K (Act.put ⟨putsD vs a.tmps DS, a.defers⟩ o.dst undef) w) : StepR P ops Iv Rl a Px dp i := by
 intro o' ho' vs w hb hd K hK;rw [ho] at ho';cases ho';have := h vs w hb hd K;rw [← hds, ← putsT_D] at this;exact this hK
theorem wp_region_rel (Iv : World → Prop) (Rl : Nat → Value → World → World → Prop) (Cx : Nat → Nat → Value → Value → Prop) (PX : List (List Value → Value → World → Prop)) (DP : List (List Nat)) (L1 ex : List Nat) (n : Nat) {id : Nat} {a : Act} {w : World} (hm : P.follows .mixedOrders = true)
  (hn : a.tmps.size = n) (hok : Region.propsB .any ops L1 (L1 ++ ex) (fun i => DP.getD i []) n = true) (hI : Iv w.drew) (hinv : ∀ j v w w', Iv w → Rl j v w w' → Iv w')
  (hmono : ∀ i j l v v' w w', i ≠ j → (PX.getD i fun _ _ _ => True) l v w → Rl j v' w w' → (PX.getD i fun _ _ _ => True) l v w')
  (hcross : ∀ i j l v v' w w', i ≠ j → (PX.getD i fun _ _ _ => True) l v w → Rl j v' w w' → Cx i j v v' ∧ Cx j i v' v)
  (hstep : ∀ i ∈ L1 ++ ex, StepR P ops Iv Rl a (fun i => PX.getD i fun _ _ _ => True) (fun i => DP.getD i []) i)
  (hfin : ∀ bs : List Bool, bs.length = ex.length → FinR P ops Q Iv Cx a (fun i => PX.getD i fun _ _ _ => True) (fun i => DP.getD i []) (L1 ++ pickL ex bs)) : (Code.region id ops true).wp P Q a w := by
 subst hn;refine wp_region_any hm ?_
 have := wpAny_rel (P := P) (Q := Q) (md := .any) (Cx := Cx) (Region.propsB_spec hok) hmono hinv hcross hstep hfin ops.size (Array.replicate ops.size false) [] (fun _ => undef) w.drew (by simp)
  (fun k o ho hk => by simp [Array.getD_eq_getD_getElem?, Array.getElem?_replicate] at hk; split at hk <;> simp at hk) ?_ (fun i => ⟨fun h => (by cases h), fun h => by simp [Array.getD_eq_getD_getElem?, Array.getElem?_replicate] at h; split at h <;> simp at h⟩) (fun _ h => by cases h) hI (fun _ h => by cases h) (fun _ h => by cases h)
 ·exact this
 ·have : ∀ (l : Array Bool) n, unL l n ≤ n := fun l n => by
   induction n with
   | zero => exact zqn _
   | succ n ih => unfold unL; split <;> omega
  exact this _ _
end
end Go
