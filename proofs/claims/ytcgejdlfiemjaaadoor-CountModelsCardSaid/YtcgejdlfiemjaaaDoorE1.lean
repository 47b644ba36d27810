/- Sums of nets in commutative semirings: linear in the weights of each variable, and the sums over all assignments. -/
import Derived.Test.YtcgejdlfiemjaaaDoorSV
set_option linter.unusedSimpArgs false
set_option linter.unusedVariables false
open Go Go.RowKit Cs
namespace Cs
/-- The laws of commutative semirings. -/
structure CR {α : Type} (R : Rg α) : Prop where
  addc : ∀ a b, R.add a b = R.add b a
  adda : ∀ a b c, R.add (R.add a b) c = R.add a (R.add b c)
  mulc : ∀ a b, R.mul a b = R.mul b a
  mula : ∀ a b c, R.mul (R.mul a b) c = R.mul a (R.mul b c)
  zadd : ∀ a, R.add R.zero a = a
  omul : ∀ a, R.mul R.one a = a
  zmul : ∀ a, R.mul R.zero a = R.zero
  dist : ∀ a b c, R.mul a (R.add b c) = R.add (R.mul a b) (R.mul a c)
/-- The same operations with weights W. -/
def Rg.wit {α : Type} (R : Rg α) (W : Int → α) : Rg α := ⟨R.zero, R.one, R.add, R.mul, W, fun v => R.add (W v) (W (-v))⟩
def setW {α : Type} (W : Int → α) (v : Int) (a b : α) : Int → α := fun l => if l = v then a else if l = -v then b else W l
theorem mem_vl {s : Nat} {i : Nat} (h : i < 128) : ((i : Int) + 1 ∈ vl s) ↔ s.testBit i = true := by
  constructor
  · intro hm
    obtain ⟨j, hj, e⟩ := vl_mem hm
    have : i = j := by omega
    rw [this]; exact hj
  · intro hb
    rw [vl_eq, List.mem_map]
    refine ⟨i + 1, ?_, by simp⟩
    unfold vlist
    exact List.mem_map.2 ⟨i, List.mem_filter.2 ⟨List.mem_range.2 h, hb⟩, rfl⟩
theorem litOk_pos' {v n : Int} (h1 : 1 ≤ v) (h2 : v ≤ n) (hn : n ≤ 128) : litOk v n = true ∧ litOk (-v) n = true := by
  unfold litOk litVar
  constructor <;> refine decide_eq_true ?_ <;> (repeat' split) <;> omega
theorem litOk_rng' {l n : Int} (h : litOk l n = true) : (1 ≤ l ∧ l ≤ n ∧ l ≤ 128) ∨ (l ≤ -1 ∧ -l ≤ n ∧ -l ≤ 128) := by
  unfold litOk litVar at h
  have h := of_decide_eq_true h
  revert h
  (repeat' split) <;> intro h <;> omega
theorem vl_nodup (s : Nat) : (vl s).Nodup := by
  rw [vl_eq]
  unfold vlist
  refine List.Pairwise.map (R := (· ≠ ·)) (S := (· ≠ ·)) _ (fun a b h e => h (by omega)) (List.Pairwise.map (R := (· ≠ ·)) (S := (· ≠ ·)) _ (fun a b h e => h (by omega)) (List.Pairwise.filter _ List.nodup_range))
theorem wth_bit (l : Int) (i : Nat) : (wth 0 (litVar l)).testBit i = decide (litVar l = (i : Int) + 1) := by
  have hl := litVar_le l
  obtain ⟨m, hm⟩ : ∃ m, litVar l = m := ⟨_, rfl⟩
  rw [hm] at hl ⊢
  unfold wth
  by_cases h : 1 ≤ m ∧ m ≤ 128
  · rw [if_pos h, Nat.zero_or, Nat.testBit_two_pow]
    exact decide_eq_decide.2 (by omega)
  · rw [if_neg h, Nat.zero_testBit]
    exact (decide_eq_false (by omega)).symm
section
variable {α : Type} {R : Rg α}
/-- Three sums: with weights a and b of a variable's literals, with 1 and 0, and with 0 and 1. -/
def Ln (R : Rg α) (a b : α) (i : Bool) (p q t : α) : Prop := if i = true then p = R.add (R.mul a q) (R.mul b t) else p = q ∧ p = t
variable {a b : α}
theorem CR.addz (C : CR R) (a : α) : R.add a R.zero = a := by rw [C.addc, C.zadd]
theorem CR.mulo (C : CR R) (a : α) : R.mul a R.one = a := by rw [C.mulc, C.omul]
theorem CR.mulz (C : CR R) (a : α) : R.mul a R.zero = R.zero := by rw [C.mulc, C.zmul]
theorem CR.tsid (C : CR R) (a b c : α) : R.mul (R.add a b) c = R.add (R.mul a c) (R.mul b c) := by rw [C.mulc, C.dist, C.mulc c a, C.mulc c b]
theorem CR.add4 (C : CR R) (a b c d : α) : R.add (R.add a b) (R.add c d) = R.add (R.add a c) (R.add b d) := by
  rw [C.adda, C.adda, ← C.adda b c d, C.addc b c, C.adda c b d]
theorem Ln.mulR (C : CR R) {i : Bool} {p q t : α} (h : Ln R a b i p q t) (c : α) : Ln R a b i (R.mul p c) (R.mul q c) (R.mul t c) := by
  unfold Ln at *
  split
  · rename_i h0
    rw [if_pos h0] at h
    rw [h, C.tsid, C.mula, C.mula]
  · rename_i h0
    rw [if_neg h0] at h
    exact ⟨by rw [h.1], by rw [h.2]⟩
theorem Ln.mulL (C : CR R) {i : Bool} {p q t : α} (h : Ln R a b i p q t) (c : α) : Ln R a b i (R.mul c p) (R.mul c q) (R.mul c t) := by
  rw [C.mulc c p, C.mulc c q, C.mulc c t]; exact h.mulR C c
theorem Ln.add (C : CR R) {i : Bool} {p q t p' q' t' : α} (h : Ln R a b i p q t) (h' : Ln R a b i p' q' t') : Ln R a b i (R.add p p') (R.add q q') (R.add t t') := by
  unfold Ln at *
  split
  · rename_i h0
    rw [if_pos h0] at h h'
    rw [h, h', C.add4, C.dist, C.dist]
  · rename_i h0
    rw [if_neg h0] at h h'
    exact ⟨by rw [h.1, h'.1], by rw [h.2, h'.2]⟩
theorem Ln.zero (C : CR R) (i : Bool) : Ln R a b i R.zero R.zero R.zero := by
  unfold Ln
  split
  · rw [C.mulz, C.mulz, C.zadd]
  · exact ⟨rfl, rfl⟩
theorem Ln.same (p : α) : Ln R a b false p p p := ⟨rfl, rfl⟩
theorem Ln.no {p q t : α} (h : Ln R a b false p q t) : p = q ∧ p = t := h
theorem Ln.mul (C : CR R) {i j : Bool} {p q t p' q' t' : α} (h : Ln R a b i p q t) (h' : Ln R a b j p' q' t') (hij : ¬ (i = true ∧ j = true)) : Ln R a b (i || j) (R.mul p p') (R.mul q q') (R.mul t t') := by
  cases j
  · obtain ⟨rfl, rfl⟩ := h'.no
    rw [Bool.or_false]
    exact h.mulR C _
  · cases i
    · obtain ⟨rfl, rfl⟩ := h.no
      exact h'.mulL C _
    · exact absurd ⟨rfl, rfl⟩ hij
variable (W : Int → α) (v : Int)
theorem setW_other (a b : α) {u : Int} (h1 : u ≠ v) (h2 : u ≠ -v) : setW W v a b u = W u := by unfold setW; rw [if_neg h1, if_neg h2]
theorem setW_at (a b : α) : setW W v a b v = a := by unfold setW; rw [if_pos rfl]
theorem setW_neg (a b : α) (hv : 1 ≤ v) : setW W v a b (-v) = b := by unfold setW; rw [if_neg (by omega), if_pos rfl]
theorem Ln.wide (C : CR R) (hv : 1 ≤ v) (vs : List Int) : vs.Nodup → (∀ u ∈ vs, 1 ≤ u) → ∀ (i : Bool) (p q t : α), Ln R a b i p q t → (v ∈ vs → i = false) →
    Ln R a b (i || decide (v ∈ vs)) ((R.wit (setW W v a b)).wide p vs) ((R.wit (setW W v R.one R.zero)).wide q vs) ((R.wit (setW W v R.zero R.one)).wide t vs) := by
  induction vs with
  | nil => intro _ _ i p q t h _; simpa [Rg.wide] using h
  | cons u us IH =>
    intro hn h1 i p q t h hi
    have hn' := List.nodup_cons.1 hn
    have hu := h1 u (by simp)
    have IH2 := IH hn'.2 (fun w hw => h1 w (by simp [hw]))
    show Ln R a b _ ((R.wit (setW W v a b)).wide (R.mul p (R.add (setW W v a b u) (setW W v a b (-u)))) us) ((R.wit (setW W v R.one R.zero)).wide (R.mul q (R.add (setW W v R.one R.zero u) (setW W v R.one R.zero (-u)))) us) ((R.wit (setW W v R.zero R.one)).wide (R.mul t (R.add (setW W v R.zero R.one u) (setW W v R.zero R.one (-u)))) us)
    by_cases huv : u = v
    · subst huv
      have hf := hi (by simp)
      subst hf
      obtain ⟨rfl, rfl⟩ := h.no
      have h2 : Ln R a b true (R.mul p (R.add (setW W u a b u) (setW W u a b (-u)))) (R.mul p (R.add (setW W u R.one R.zero u) (setW W u R.one R.zero (-u)))) (R.mul p (R.add (setW W u R.zero R.one u) (setW W u R.zero R.one (-u)))) := by
        rw [setW_at, setW_at, setW_at, setW_neg _ _ _ _ hv, setW_neg _ _ _ _ hv, setW_neg _ _ _ _ hv, C.addz, C.zadd, C.mulo]
        unfold Ln
        rw [if_pos rfl, C.mulc p, C.tsid]
      have ih := IH2 true _ _ _ h2 (fun hm => absurd hm hn'.1)
      have e : (false || decide (u ∈ u :: us)) = (true || decide (u ∈ us)) := by simp
      rw [e]; exact ih
    · have e1 : u ≠ -v := by omega
      have e2 : -u ≠ v := by omega
      have e3 : -u ≠ -v := by omega
      rw [setW_other _ _ _ _ huv e1, setW_other _ _ _ _ e2 e3, setW_other _ _ _ _ huv e1, setW_other _ _ _ _ e2 e3, setW_other _ _ _ _ huv e1, setW_other _ _ _ _ e2 e3]
      have ih := IH2 i _ _ _ (h.mulR C (R.add (W u) (W (-u)))) (fun hm => hi (by simp [hm]))
      have e : decide (v ∈ u :: us) = decide (v ∈ us) := by
        refine decide_eq_decide.2 ?_
        rw [List.mem_cons]
        exact ⟨fun h => h.resolve_left (Ne.symm huv), .inr⟩
      rw [e]; exact ih
theorem vl_pos (s : Nat) : ∀ u ∈ vl s, 1 ≤ u := fun u hu => by
  obtain ⟨i, _, rfl⟩ := vl_mem hu; omega
/-- The parts of the net's three sums. -/
theorem lin_gap (C : CR R) (i : Nat) (hi : i < 128) (O : List Nat) (P Q T : List α) (all k : Nat) (h : Ln R a b ((O.getD k 0).testBit i) (P.getD k R.zero) (Q.getD k R.zero) (T.getD k R.zero)) (hs : (O.getD k 0).testBit i = true → all.testBit i = true) :
    Ln R a b (all.testBit i) ((R.wit (setW W ((i : Int) + 1) a b)).gap O P all k) ((R.wit (setW W ((i : Int) + 1) R.one R.zero)).gap O Q all k) ((R.wit (setW W ((i : Int) + 1) R.zero R.one)).gap O T all k) := by
  have hm : decide ((i : Int) + 1 ∈ vl (minus all (O.getD k 0))) = (all.testBit i && !(O.getD k 0).testBit i) := by
    rw [← minus_bit, Bool.eq_iff_iff, decide_eq_true_iff]; exact mem_vl hi
  have := Ln.wide W ((i : Int) + 1) C (by omega) _ (vl_nodup (minus all (O.getD k 0))) (vl_pos _) _ _ _ _ h (fun hmm => by
    have := decide_eq_true hmm
    rw [hm] at this
    revert this
    cases (O.getD k 0).testBit i <;> simp)
  rw [hm] at this
  have e : ((O.getD k 0).testBit i || (all.testBit i && !(O.getD k 0).testBit i)) = all.testBit i := by
    revert hs
    cases (O.getD k 0).testBit i <;> cases all.testBit i <;> simp
  rw [e] at this
  exact this
theorem lin_and (C : CR R) (i : Nat) (O : List Nat) (P Q T : List α) (Rp Rq Rt : Rg α) (hp : Rp.mul = R.mul) (hq : Rq.mul = R.mul) (ht : Rt.mul = R.mul) (zp : Rp.zero = R.zero) (zq : Rq.zero = R.zero) (zt : Rt.zero = R.zero) (x : Nd) (h3 : x.kind = 1 ∨ x.kind = 3) :
    ∀ (ks : List Int) (s : Nat) (p q t : α), apart O s ks = true → (∀ k ∈ ks, Ln R a b ((O.getD k.toNat 0).testBit i) (P.getD k.toNat R.zero) (Q.getD k.toNat R.zero) (T.getD k.toNat R.zero)) → Ln R a b (s.testBit i) p q t →
      Ln R a b ((ks.foldl (fun s k => s ||| O.getD k.toNat 0) s).testBit i) (ks.foldl (Rp.in1 O P x) p) (ks.foldl (Rq.in1 O Q x) q) (ks.foldl (Rt.in1 O T x) t)
  | [], s, p, q, t, _, _, h => h
  | k :: ks, s, p, q, t, ha, hL, h => by
    unfold apart at ha
    split at ha
    · rename_i h0
      have hk := hL k (by simp)
      have e1 : ∀ (S : Rg α) (L : List α) (c : α), S.mul = R.mul → S.zero = R.zero → S.in1 O L x c k = R.mul c (L.getD k.toNat R.zero) := fun S L c hs hz => by unfold Rg.in1; rw [if_pos h3, hs, hz]
      show Ln R a b ((ks.foldl (fun s k => s ||| O.getD k.toNat 0) (s ||| O.getD k.toNat 0)).testBit i) (ks.foldl (Rp.in1 O P x) (Rp.in1 O P x p k)) (ks.foldl (Rq.in1 O Q x) (Rq.in1 O Q x q k)) (ks.foldl (Rt.in1 O T x) (Rt.in1 O T x t k))
      rw [e1 Rp P p hp zp, e1 Rq Q q hq zq, e1 Rt T t ht zt]
      refine lin_and C i O P Q T Rp Rq Rt hp hq ht zp zq zt x h3 ks _ _ _ _ ha (fun k' hk' => hL k' (by simp [hk'])) ?_
      rw [Nat.testBit_or]
      refine h.mul C hk fun hh => ?_
      have h2 := congrArg (fun z => z.testBit i) h0
      simp only [Nat.testBit_and, Nat.zero_testBit, hh.1, hh.2, Bool.and_self] at h2
      cases h2
    · cases ha
theorem lin_or (C : CR R) (B : Bool) (O : List Nat) (P Q T : List α) (Rp Rq Rt : Rg α) (hp : Rp.add = R.add) (hq : Rq.add = R.add) (ht : Rt.add = R.add) (x : Nd) (h3 : ¬ (x.kind = 1 ∨ x.kind = 3)) :
    ∀ (ks : List Int) (p q t : α), (∀ k ∈ ks, Ln R a b B (Rp.gap O P (O.getD P.length 0) k.toNat) (Rq.gap O Q (O.getD Q.length 0) k.toNat) (Rt.gap O T (O.getD T.length 0) k.toNat)) → Ln R a b B p q t →
      Ln R a b B (ks.foldl (Rp.in1 O P x) p) (ks.foldl (Rq.in1 O Q x) q) (ks.foldl (Rt.in1 O T x) t)
  | [], p, q, t, _, h => h
  | k :: ks, p, q, t, hL, h => by
    have e1 : ∀ (S : Rg α) (L : List α) (c : α), S.add = R.add → S.in1 O L x c k = R.add c (S.gap O L (O.getD L.length 0) k.toNat) := fun S L c hs => by unfold Rg.in1; rw [if_neg h3, hs]
    show Ln R a b B (ks.foldl (Rp.in1 O P x) (Rp.in1 O P x p k)) (ks.foldl (Rq.in1 O Q x) (Rq.in1 O Q x q k)) (ks.foldl (Rt.in1 O T x) (Rt.in1 O T x t k))
    rw [e1 Rp P p hp, e1 Rq Q q hq, e1 Rt T t ht]
    exact lin_or C B O P Q T Rp Rq Rt hp hq ht x h3 ks _ _ _ (fun k' hk' => hL k' (by simp [hk'])) (h.add C (hL k (by simp)))
theorem formed_lit0 {x : Nd} {n b : Int} (h : formed x n b = true) (h2 : x.kind ≠ 2) : x.lit = 0 := by
  unfold formed at h
  by_cases h1 : x.kind = 0 ∨ x.kind = 1
  · simp [h1] at h; exact h.2.1
  · by_cases h3 : x.kind = 3 ∨ x.kind = 4
    · simp [h1, h2, h3] at h; exact h.2
    · simp [h1, h2, h3] at h
theorem formed_mem {x : Nd} {n : Int} {k : Nat} (h : formed x n (k : Int) = true) : ∀ j ∈ x.ins, ∃ m : Nat, j = (m : Int) ∧ m < k := fun j hj => by
  obtain ⟨a, ha, rfl⟩ := List.getElem_of_mem hj
  obtain ⟨m, hm1, hm2⟩ := Go.Proofs.YtcgejdlfiemjaaaDoor.formed_ins h a ha
  exact ⟨m, by rw [← hm1]; simp [List.getD, ha], hm2⟩
theorem formed_litOk {x : Nd} {n b : Int} (h : formed x n b = true) (h2 : x.kind = 2) : litOk x.lit n = true ∧ x.ins = [] := by
  unfold formed at h
  simp [h2] at h; exact h.2
theorem lin_step (C : CR R) {N : Nt} (hv : vld N = true) (hd : dcmp N = true) (i : Nat) (hi : i < 128) (k : Nat) (hk : k < N.l.length) (P Q T : List α) (lp : P.length = k) (lq : Q.length = k) (lt : T.length = k)
    (h : ∀ j, j < k → Ln R a b (((own N.l).getD j 0).testBit i) (P.getD j R.zero) (Q.getD j R.zero) (T.getD j R.zero)) :
    Ln R a b (((own N.l).getD k 0).testBit i) ((R.wit (setW W ((i : Int) + 1) a b)).step (own N.l) P N.l[k]) ((R.wit (setW W ((i : Int) + 1) R.one R.zero)).step (own N.l) Q N.l[k]) ((R.wit (setW W ((i : Int) + 1) R.zero R.one)).step (own N.l) T N.l[k]) := by
  have hfm := vld_formed hv k hk
  have hmem := formed_mem hfm
  have hb := own_bit hv k hk i
  have hLm : ∀ j ∈ N.l[k].ins, Ln R a b (((own N.l).getD j.toNat 0).testBit i) (P.getD j.toNat R.zero) (Q.getD j.toNat R.zero) (T.getD j.toNat R.zero) := fun j hj => by
    obtain ⟨m, rfl, hm⟩ := hmem j hj
    exact h _ (by simpa using hm)
  by_cases h2 : N.l[k].kind = 2
  · obtain ⟨hl, hin⟩ := formed_litOk hfm h2
    rw [hin, List.any_nil, Bool.or_false, wth_bit] at hb
    unfold Rg.step
    rw [hin, hb]
    show Ln R a b _ (Rg.start _ _) (Rg.start _ _) (Rg.start _ _)
    unfold Rg.start
    rw [if_pos h2, if_pos h2, if_pos h2]
    show Ln R a b _ (setW W ((i : Int) + 1) a b N.l[k].lit) (setW W ((i : Int) + 1) R.one R.zero N.l[k].lit) (setW W ((i : Int) + 1) R.zero R.one N.l[k].lit)
    obtain ⟨hn0, hn1, _, _⟩ := vld_bounds hv
    have hr := litOk_rng' hl
    obtain ⟨l, hl'⟩ : ∃ l, N.l[k].lit = l := ⟨_, rfl⟩
    rw [hl'] at hl hr ⊢
    have hlv : litVar l = if 0 < l then l else -l := by unfold litVar; repeat' split <;> omega
    by_cases hp : l = (i : Int) + 1
    · subst hp
      rw [decide_eq_true (by rw [hlv, if_pos (by omega)]), setW_at, setW_at, setW_at]
      unfold Ln; rw [if_pos rfl, C.mulo, C.mulz, C.addz]
    · by_cases hm : l = -((i : Int) + 1)
      · subst hm
        rw [decide_eq_true (by rw [hlv, if_neg (by omega)]; omega), setW_neg _ _ _ _ (by omega), setW_neg _ _ _ _ (by omega), setW_neg _ _ _ _ (by omega)]
        unfold Ln; rw [if_pos rfl, C.mulo, C.mulz, C.zadd]
      · rw [decide_eq_false (by rw [hlv]; split <;> omega), setW_other _ _ _ _ hp hm, setW_other _ _ _ _ hp hm, setW_other _ _ _ _ hp hm]
        exact Ln.same _
  · have hl0 := formed_lit0 hfm h2
    have hz : (wth 0 (litVar N.l[k].lit)).testBit i = false := by rw [wth_bit, hl0]; exact decide_eq_false (by show ¬ (0 : Int) = _; omega)
    by_cases h3 : N.l[k].kind = 1 ∨ N.l[k].kind = 3
    · have hap : apart (own N.l) 0 N.l[k].ins = true := by
        rcases h3 with h1 | h3
        · rcases formed_kind hfm with ⟨_, h4⟩ | h4 | h4
          · rw [List.length_eq_zero_iff.1 h4]; rfl
          · omega
          · omega
        · exact dcmpL_at _ _ k hk hd h3
      have key := lin_and (a := a) (b := b) C i (own N.l) P Q T (R.wit (setW W ((i : Int) + 1) a b)) (R.wit (setW W ((i : Int) + 1) R.one R.zero)) (R.wit (setW W ((i : Int) + 1) R.zero R.one)) rfl rfl rfl rfl rfl rfl N.l[k] h3 N.l[k].ins 0 R.one R.one R.one hap hLm
        (by rw [Nat.zero_testBit]; exact Ln.same _)
      rw [fold_bit, Nat.zero_testBit, Bool.false_or] at key
      rw [hb, hz, Bool.false_or]
      have e : ∀ S : Rg α, S.one = R.one → S.start N.l[k] = R.one := fun S hS => by unfold Rg.start; rw [if_neg h2, if_pos h3, hS]
      unfold Rg.step
      rw [e (R.wit (setW W ((i : Int) + 1) a b)) rfl, e (R.wit (setW W ((i : Int) + 1) R.one R.zero)) rfl, e (R.wit (setW W ((i : Int) + 1) R.zero R.one)) rfl]
      exact key
    · have e : ∀ S : Rg α, S.zero = R.zero → S.start N.l[k] = R.zero := fun S hS => by unfold Rg.start; rw [if_neg h2, if_neg h3, hS]
      unfold Rg.step
      rw [e (R.wit (setW W ((i : Int) + 1) a b)) rfl, e (R.wit (setW W ((i : Int) + 1) R.one R.zero)) rfl, e (R.wit (setW W ((i : Int) + 1) R.zero R.one)) rfl]
      refine lin_or C _ (own N.l) P Q T (R.wit (setW W ((i : Int) + 1) a b)) (R.wit (setW W ((i : Int) + 1) R.one R.zero)) (R.wit (setW W ((i : Int) + 1) R.zero R.one)) rfl rfl rfl N.l[k] h3 N.l[k].ins _ _ _ (fun j hj => ?_) (Ln.zero C _)
      rw [lp, lq, lt]
      refine lin_gap W C i hi (own N.l) P Q T _ _ (hLm j hj) fun hh => own_ins hv k hk j hj i hh
theorem scan_old {α : Type} (f : List α → Nd → α) (d : α) (xs : List Nd) (k j : Nat) (h : k < xs.length) (hj : j < k) : (scan f [] (xs.take (k + 1))).getD j d = (scan f [] (xs.take k)).getD j d := by
  rw [scan_take _ _ k h, List.getD_eq_getElem?_getD, List.getElem?_append_left (by rw [scan_len _ _ _ (by omega)]; exact hj), ← List.getD_eq_getElem?_getD]
theorem lin_all (C : CR R) {N : Nt} (hv : vld N = true) (hd : dcmp N = true) (i : Nat) (hi : i < 128) : ∀ (k : Nat), k ≤ N.l.length → ∀ j, j < k →
    Ln R a b (((own N.l).getD j 0).testBit i) ((scan ((R.wit (setW W ((i : Int) + 1) a b)).step (own N.l)) [] (N.l.take k)).getD j R.zero) ((scan ((R.wit (setW W ((i : Int) + 1) R.one R.zero)).step (own N.l)) [] (N.l.take k)).getD j R.zero) ((scan ((R.wit (setW W ((i : Int) + 1) R.zero R.one)).step (own N.l)) [] (N.l.take k)).getD j R.zero)
  | 0, _, j, hj => absurd hj (by omega)
  | k + 1, hk, j, hj => by
    have ih := lin_all C hv hd i hi k (by omega)
    rcases Nat.lt_or_ge j k with h1 | h1
    · rw [scan_old _ _ _ k j (by omega) h1, scan_old _ _ _ k j (by omega) h1, scan_old _ _ _ k j (by omega) h1]
      exact ih j h1
    · obtain rfl : j = k := by omega
      rw [scan_take _ _ j (by omega), scan_take _ _ j (by omega), scan_take _ _ j (by omega)]
      have hg : ∀ (L : List α) (c : α), L.length = j → (L ++ [c]).getD j R.zero = c := fun L c hL => by
        rw [List.getD_eq_getElem?_getD, List.getElem?_append_right (by omega), hL, Nat.sub_self]; rfl
      rw [hg _ _ (scan_len _ _ _ (by omega)), hg _ _ (scan_len _ _ _ (by omega)), hg _ _ (scan_len _ _ _ (by omega))]
      exact lin_step W C hv hd i hi j (by omega) _ _ _ (scan_len _ _ _ (by omega)) (scan_len _ _ _ (by omega)) (scan_len _ _ _ (by omega)) ih
/-- A sum is linear in the weights of a variable's literals. -/
theorem lin_sum (C : CR R) {N : Nt} (hv : vld N = true) (hd : dcmp N = true) (i : Nat) (hi : (i : Int) < N.n) (a b : α) :
    (R.wit (setW W ((i : Int) + 1) a b)).sum N = R.add (R.mul a ((R.wit (setW W ((i : Int) + 1) R.one R.zero)).sum N)) (R.mul b ((R.wit (setW W ((i : Int) + 1) R.zero R.one)).sum N)) := by
  obtain ⟨hn0, hn1, hl0, hl1⟩ := vld_bounds hv
  have h := lin_all (a := a) (b := b) W C hv hd i (by omega) N.l.length (Nat.le_refl _) (N.l.length - 1) (by omega)
  rw [List.take_length] at h
  have h2 := lin_gap W C i (by omega) (own N.l) _ _ _ (allTo N.n) (N.l.length - 1) h (fun hb => by
    have := own_sub hv N.l.length (N.l.length - 1) (by omega) (by omega) i hb
    rw [allTo_bit]; simp; omega)
  rw [show (allTo N.n).testBit i = true by rw [allTo_bit]; simp; omega] at h2
  exact h2
end
end Cs
