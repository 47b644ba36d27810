import Derived.Test.YtoljkoifgnmbgaaGreatDoorKm
import Derived.Test.YtoljkoifgnmbgaaGreatDoorCm
set_option linter.unusedSimpArgs false
set_option linter.unusedVariables false
section
set_option maxRecDepth 100000
set_option maxHeartbeats 8000000
open Go Go.RowKit Cs
namespace Go.Proofs.YtoljkoifgnmbgaaGreatDoor
structure EqAt (w : World) (V n d b1 b2 b3 b4 : Nat) (W : World) : Prop where
 bl : Below w.heap.size w W
 c1 : W.cell? ⟨b1, 0, none⟩ = some (.string (natB V))
 c2 : W.cell? ⟨b2, 0, none⟩ = some (.string (natB V))
 c3 : W.cell? ⟨b3, 0, none⟩ = some (.string (natB n)) ∧ W.cell? ⟨b3, 1, none⟩ = some (.string (natB d))
 c4 : W.cell? ⟨b4, 0, none⟩ = some (.string (natB n)) ∧ W.cell? ⟨b4, 1, none⟩ = some (.string (natB d))
theorem EqAt.below {w W W' : World} {V n d b1 b2 b3 b4 : Nat} (h : EqAt w V n d b1 b2 b3 b4 W) (hb : Below W.heap.size W W') : EqAt w V n d b1 b2 b3 b4 W' :=
 have k : ∀ {p : Addr} {x : Value}, W.cell? p = some x → W'.cell? p = some x := fun h => (hb.cell (World.block_lt_of_cell? W _ h)).trans h
 ⟨zqx h.bl hb h.bl.size, k h.c1, k h.c2, ⟨k h.c3.1, k h.c3.2⟩, ⟨k h.c4.1, k h.c4.2⟩⟩
theorem eq_of_bag {w w0 W : World} {D V n d b1 b2 b3 b4 : Nat} (h : Bag w w0 D [(b4, 60, 2, #[.string (natB n), .string (natB d)]), (b3, 60, 2, #[.string (natB n), .string (natB d)]), (b2, 54, 1, #[.string (natB V)]), (b1, 54, 1, #[.string (natB V)])] W) : EqAt w V n d b1 b2 b3 b4 W :=
 ⟨h.bl, h.is b1 1 54 #[.string (natB V)] (by simp) 0 (by decide) _ rfl, h.is b2 1 54 #[.string (natB V)] (by simp) 0 (by decide) _ rfl,
  ⟨h.is b3 2 60 #[.string (natB n), .string (natB d)] (by simp) 0 (by decide) _ rfl, h.is b3 2 60 #[.string (natB n), .string (natB d)] (by simp) 1 (by decide) _ rfl⟩,
  ⟨h.is b4 2 60 #[.string (natB n), .string (natB d)] (by simp) 0 (by decide) _ rfl, h.is b4 2 60 #[.string (natB n), .string (natB d)] (by simp) 1 (by decide) _ rfl⟩⟩
theorem equal_true (w : World) (p1 p2 : Value) (V n d : Nat) (hV : n8 V ≤ 100000) (hn : n8 n ≤ 100000) (hd : n8 d ≤ 100000)
  (h1 : ∀ W, Below w.heap.size w W → Calls Tryz.prog 24 #[p1] W fun e w' => e = .returned (.tuple #[natV V, .int .i64 0]) ∧ Below W.heap.size W w')
  (h2 : ∀ W, Below w.heap.size w W → Calls Tryz.prog 24 #[p2] W fun e w' => e = .returned (.tuple #[natV V, .int .i64 0]) ∧ Below W.heap.size W w')
  (h3 : ∀ W, Below w.heap.size w W → Calls Tryz.prog 25 #[p1] W fun e w' => e = .returned (.tuple #[ratV n d, .int .i64 0]) ∧ Below W.heap.size W w')
  (h4 : ∀ W, Below w.heap.size w W → Calls Tryz.prog 25 #[p2] W fun e w' => e = .returned (.tuple #[ratV n d, .int .i64 0]) ∧ Below W.heap.size W w') :
  Calls Tryz.prog 31 #[p1, p2] w fun e w' => e = .returned (.bool true) ∧ Below w.heap.size w w' := by
 have hc := fun W => cmp_any W V V (by omega) (by omega);have hq := fun W => qcmp_any W n d n d hn hd hn hd
 have hcmp : ∀ a, cmpN a a = 0 := fun a => by unfold cmpN; rw [if_neg (by omega), if_pos rfl]
 rw [hcmp] at hc hq;have H1 := zqh h1;have H2 := zqh h2;have H3 := zqh h3;have H4 := zqh h4;have HC := zqh hc;have HQ := zqh hq;have q0 := zqh (Bag.zero w);clear h1 h2 h3 h4 hc hq hcmp hV hn hd
 go_enter Tryz.func31, Tryz.ntmps31
 go_upto_region 5 with (first
  | (go_at_call 24; (with_reducible refine (H1.out _ q0.out.bl).mono ?_); rintro e w1 ⟨rfl, hb⟩; have q1 := zqh ((q0.out.below hb).new #[.string (natB V)] 54 _ 1 rfl rfl); clear hb q0 H1)
  | (go_at_call 24; (with_reducible refine (H2.out _ q1.out.bl).mono ?_); rintro e w2 ⟨rfl, hb⟩; have q2 := zqh ((q1.out.below hb).new #[.string (natB V)] 54 _ 1 rfl rfl); clear hb q1 H2)
  | (go_at_call 25; (with_reducible refine (H3.out _ q2.out.bl).mono ?_); rintro e w3 ⟨rfl, hb⟩; have q3 := zqh ((q2.out.below hb).new #[.string (natB n), .string (natB d)] 60 _ 2 rfl rfl); clear hb q2 H3)
  | (go_at_call 25; (with_reducible refine (H4.out _ q3.out.bl).mono ?_); rintro e w4 ⟨rfl, hb⟩; have q4 := zqh ((q3.out.below hb).new #[.string (natB n), .string (natB d)] 60 _ 2 rfl rfl); clear hb q3 H4))
 have e4 := zqh (eq_of_bag q4.out);have m1 := e4.out.c1;have m2 := e4.out.c2;obtain ⟨m3, m4⟩ := e4.out.c3;obtain ⟨m5, m6⟩ := e4.out.c4;clear q4
 go_wp2_with (first
  | (go_at_call 35; (with_reducible refine (HC.out _).mono ?_); rintro e w5 ⟨rfl, hb⟩; have e5 := zqh (e4.out.below hb); obtain ⟨p3, p4⟩ := e5.out.c3; obtain ⟨p5, p6⟩ := e5.out.c4; clear hb)
  | (go_at_call 38; (with_reducible refine (HQ.out _).mono ?_); rintro e w6 ⟨rfl, hb⟩; have e6 := zqh (e5.out.below hb); clear hb))
 all_goals
  go_ret
  exact ⟨rfl, e6.out.bl⟩
end Go.Proofs.YtoljkoifgnmbgaaGreatDoor
end
section
open Go Go.RowKit Cs
namespace Go.Proofs.YtoljkoifgnmbgaaGreatDoor
section
variable {w W W' : World} {E : Nat} {g : Sg} {N : Nt} {n : Nat} {lo hi : List Pr} {tv : Value} {T : List Int} {k : Int} {P Q : World → Prop}
theorem Lv.keepOf (h : Lv w E g N n lo hi tv T k W) {tv' : Value} {T' : List Int} {k' : Int} (q : SesAt W' w.heap.size E g N n lo hi tv' T' k') (kp : Keep (g.all tv) W W') : Lv w E g N n lo hi tv' T' k' W' := ⟨q, h.bl.trans (h.ses.keepBelow kp)⟩
theorem Lv.push_raw (h : Lv w E g N n lo hi tv T k W) (ok : SesOk N n lo hi T w.heap.size) (hT : Tab w) (l : Int) (h1 : -9223372036854775808 ≤ l) (h2 : l ≤ 9223372036854775807) :
  Calls Tryz.prog 22 #[.pointer (some ⟨g.b, 0, none⟩), .int .i64 l] W fun e w' => e = .returned (.int .i64 (pushE N.n T l)) ∧ ∃ tv' k', Lv w E g N n lo hi tv' (pushT N.n T l) k' w' ∧ Keep (g.all tv) W w' ∧ (tv'.ownBlock = tv.ownBlock ∨ ∃ X, tv'.ownBlock = some X ∧ W.heap.size ≤ X) := by
 have hlen := ok.tk.len;have hn2 := vn_le ok.hv ok.hn;unfold pushE pushT;by_cases hb : litOk l N.n = true
 ·rw [if_pos hb, if_pos hb];by_cases ht : l ∈ T ∨ -l ∈ T
  ·rw [if_pos ht, if_pos ht];refine (push_twice l h1 h2 h.ses ok.hv ok.hn hb (by omega) ht).mono ?_;rintro e w' ⟨rfl, hb9⟩;exact ⟨rfl, tv, k, h.below hb9, Keep.of hb9 _, Or.inl rfl⟩
  ·rw [if_neg ht, if_neg ht];refine (push_ok l h.ses ok (hT.below h.bl) (by omega) hb (fun h3 => ht (Or.inl h3)) (fun h3 => ht (Or.inr h3))).mono ?_;rintro e w' ⟨rfl, tv', q, kp, hx⟩;exact ⟨rfl, tv', _, h.keepOf q kp, kp, hx⟩
 ·rw [if_neg hb, if_neg hb];refine (push_arg l h1 h2 h.ses ok.hv (by simpa using hb)).mono ?_;rintro e w' ⟨rfl, rfl⟩;exact ⟨rfl, tv, k, h, Keep.refl _ _, Or.inl rfl⟩
theorem Lv.pop_raw (h : Lv w E g N n lo hi tv T k W) (ok : SesOk N n lo hi T w.heap.size) (hT : Tab w) :
  Calls Tryz.prog 20 #[.pointer (some ⟨g.b, 0, none⟩)] W fun e w' => e = .returned (.int .i64 (popE T)) ∧ ∃ tv' k', Lv w E g N n lo hi tv' T.dropLast k' w' ∧ Keep (g.all tv) W w' ∧ (tv'.ownBlock = tv.ownBlock ∨ ∃ X, tv'.ownBlock = some X ∧ W.heap.size ≤ X) := by
 rcases List.eq_nil_or_concat T with rfl | ⟨S, l, rfl⟩
 ·refine (pop_none h.ses ok.hv).mono ?_;rintro e w' ⟨rfl, rfl⟩;exact ⟨rfl, tv, k, h, Keep.refl _ _, Or.inl rfl⟩
 ·rw [List.concat_eq_append] at h ok ⊢;rw [List.dropLast_concat];refine (pop_ok l h.ses ok (hT.below h.bl)).mono ?_;rintro e w' ⟨rfl, tv', q, kp, hx⟩;exact ⟨by unfold popE; rw [if_neg (by simp)], tv', _, h.keepOf q kp, kp, Or.inl hx⟩
theorem Lv.allLt (h : Lv w E g N n lo hi tv T k W) : ∀ x ∈ g.all tv, x < W.heap.size := (Ly.ofLv h).allLt
theorem Lv.allGe (h : Lv w E g N n lo hi tv T k W) : ∀ x ∈ g.all tv, w.heap.size ≤ x := by
 intro x hx;have h1 := h.ses.ok.bD;have h2 := h.ses.ok.bE;unfold Cs.Sg.all at hx;rcases List.mem_append.1 hx with hx | hx
 ·rcases List.mem_cons.1 hx with rfl | hx
  ·exact h1
  ·have := h.ses.ok.rE x hx;omega
 ·have := (h.ses.tr.lt x (by simpa using hx)).1;omega
def Off (S : List Nat) (W : World) (P : World → Prop) : Prop := ∀ W', W.heap.size ≤ W'.heap.size → (∀ x, x < W.heap.size → x ∉ S → W'.heap[x]? = W.heap[x]?) → P W'
theorem Off.now {S : List Nat} (h : Off S W P) : P W := h W (zqn _) fun _ _ _ => rfl
theorem Off.keep {S S' : List Nat} (h : Off S W P) (kp : Keep S W W') (hS : ∀ x ∈ S', x ∈ S ∨ W.heap.size ≤ x) : Off S' W' P := fun V h1 h2 =>
 h V (Nat.le_trans kp.size h1) fun x hx hn => (h2 x (Nat.lt_of_lt_of_le hx kp.size) fun hm => by
  rcases hS x hm with h3 | h3
  ·exact hn h3
  ·omega).trans (kp.block x hx hn)
theorem Off.below {S : List Nat} (h : Off S W P) (hb : Below W.heap.size W W') : Off S W' P := h.keep (Keep.of hb S) fun x hx => Or.inl hx
structure Lf (w : World) (E : Nat) (g : Sg) (N : Nt) (n : Nat) (lo hi : List Pr) (tv : Value) (T : List Int) (k : Int) (P : World → Prop) (W : World) : Prop where
 lv : Lv w E g N n lo hi tv T k W
 fx : Off (g.all tv) W P
theorem Lf.below (h : Lf w E g N n lo hi tv T k P W) (hb : Below W.heap.size W W') : Lf w E g N n lo hi tv T k P W' := ⟨h.lv.below hb, h.fx.below hb⟩
theorem Lf.now (h : Lf w E g N n lo hi tv T k P W) : P W := h.fx.now
theorem all_grow {tv' : Value} {m : Nat} (ht : tv'.ownBlock = tv.ownBlock ∨ ∃ X, tv'.ownBlock = some X ∧ m ≤ X) : ∀ x ∈ g.all tv', x ∈ g.all tv ∨ m ≤ x := by
 intro x hx;unfold Cs.Sg.all at hx ⊢;rcases List.mem_append.1 hx with h3 | h3
 ·exact Or.inl (List.mem_append_left _ h3)
 ·rcases ht with e | ⟨X, e, hX⟩
  ·rw [e] at h3;exact Or.inl (List.mem_append_right _ h3)
  ·rw [e] at h3
   have : x = X := by simpa [eq_comm] using h3
   exact Or.inr (by omega)
theorem Lf.push (h : Lf w E g N n lo hi tv T k P W) (ok : SesOk N n lo hi T w.heap.size) (hT : Tab w) (l : Int) (h1 : -9223372036854775808 ≤ l) (h2 : l ≤ 9223372036854775807) :
  Calls Tryz.prog 22 #[.pointer (some ⟨g.b, 0, none⟩), .int .i64 l] W fun e w' => e = .returned (.int .i64 (pushE N.n T l)) ∧ ∃ tv' k', Lf w E g N n lo hi tv' (pushT N.n T l) k' P w' :=
 (h.lv.push_raw ok hT l h1 h2).mono fun e w' ⟨he, tv', k', hl, kp, ht⟩ => ⟨he, tv', k', hl, h.fx.keep kp (all_grow ht)⟩
theorem Lf.pop (h : Lf w E g N n lo hi tv T k P W) (ok : SesOk N n lo hi T w.heap.size) (hT : Tab w) :
  Calls Tryz.prog 20 #[.pointer (some ⟨g.b, 0, none⟩)] W fun e w' => e = .returned (.int .i64 (popE T)) ∧ ∃ tv' k', Lf w E g N n lo hi tv' T.dropLast k' P w' :=
 (h.lv.pop_raw ok hT).mono fun e w' ⟨he, tv', k', hl, kp, ht⟩ => ⟨he, tv', k', hl, h.fx.keep kp (all_grow ht)⟩
theorem Lv.count (h : Lv w E g N n lo hi tv T k W) (ok : SesOk N n lo hi T w.heap.size) (hT : Tab w) :
  Calls Tryz.prog 24 #[.pointer (some ⟨g.b, 0, none⟩)] W fun e w' => e = .returned (.tuple #[natV (sesC N n T), .int .i64 0]) ∧ Below W.heap.size W w' :=
 count_at h.ses ok (hT.below h.bl)
theorem Lv.weight (h : Lv w E g N n lo hi tv T k W) (ok : SesOk N n lo hi T w.heap.size) (hT : Tab w) :
  Calls Tryz.prog 25 #[.pointer (some ⟨g.b, 0, none⟩)] W fun e w' => e = .returned (.tuple #[ratV (sesW N n lo hi T).1 (sesW N n lo hi T).2, .int .i64 0]) ∧ Below W.heap.size W w' :=
 weight_at h.ses ok (hT.below h.bl)
end
end Go.Proofs.YtoljkoifgnmbgaaGreatDoor
end
