import Derived.Test.YtmhllppjcilllaaGreatDoorHo
import Derived.Laws.OwnMore
import Derived.Maps.AppendAt
import Derived.Test.YtmhllppjcilllaaGreatDoorKp
import Derived.Test.YtmhllppjcilllaaGreatDoorEr
import Derived.Test.YtmhllppjcilllaaGreatDoorSw
set_option linter.unusedSimpArgs false
set_option linter.unusedVariables false
section
open Go Go.RowKit Cs
namespace Go
theorem alive_of {kl : Nat → Option Nat} {l : List Nat} {i : Nat} (h : (l.all fun j => kl j != some i) = true) : aliveO kl l i := fun j hj => by
 have := List.all_eq_true.1 h j hj
 simpa using this
theorem own_blk {w : World} {base : Nat} {e : TypeId} {sz : Nat} {v : Value} {n : Nat} {xs : List Value} (h : w.ownsRow base e sz v n xs) : v.ownBlock = blkOf v := by
 rcases h.2 with ⟨rfl, _⟩ | ⟨g, cap, cur, rfl, _⟩ <;> rfl
theorem own_loc {w w' : World} {base : Nat} {e : TypeId} {sz : Nat} {v : Value} {n : Nat} {xs : List Value} (h : w.ownsRow base e sz v n xs) (hb : ∀ b, blkOf v = some b → w'.heap[b]? = w.heap[b]?) : w'.ownsRow base e sz v n xs := by
 refine ⟨h.1, ?_⟩;rcases h.2 with hn | ⟨g, cap, cur, rfl, hg, hgg, rest⟩
 ·exact .inl hn
 ·exact .inr ⟨g, cap, cur, rfl, hg, (hb g rfl).trans hgg, rest⟩
theorem row_loc {w w' : World} {g n : Nat} {t : TypeId} {f : Nat → Value} (h : w.rowIs g t n f) (hb : ∀ b, blkOf (.pointer (some ⟨g, 0, none⟩)) = some b → w'.heap[b]? = w.heap[b]?) : w'.rowIs g t n f := h.of_block (hb g rfl)
section
variable {al : Nat → Bool} {kl : Nat → Option Nat} {j : Nat} {dv : List Value} {v v' : Value} {W W' : World}
theorem rl_same (h : kl j = none) (ha : al j = false) : RlO al kl j dv v W W := ⟨fun _ => ⟨zqr _ _, fun h => by rw [ha] at h; cases h⟩, fun h' => absurd h h'⟩
theorem rl_below (h : kl j = none) (ha : al j = false) (hb : Below W.heap.size W W') : RlO al kl j dv v W W' := ⟨fun _ => ⟨hb, fun h => by rw [ha] at h; cases h⟩, fun h' => absurd h h'⟩
theorem rl_new (h : kl j = none) (o : Obj) (hv : blkOf v = some W.heap.size) : RlO al kl j dv v W (W.alloc o) :=
 ⟨fun _ => ⟨(zqr _ _).alloc (zqn _) _, fun _ b hb => by rw [hv] at hb; cases hb; exact ⟨zqn _, by simp⟩⟩, fun h' => absurd h h'⟩
theorem rl_app {base base' : Nat} {e : TypeId} {sz n n' : Nat} {xs ys : List Value} {v1 : Value} (h : kl j ≠ none) (hd : dv.headD undef = v1) (o1 : W.ownsRow base e sz v1 n xs) (t1 : W'.ownsRow base' e sz v' n' ys) (t2 : W.grownBy W' v1.ownBlock) (t3 : v'.ownBlock = v1.ownBlock ∨ v'.ownBlock = some W.heap.size) :
  RlO al kl j dv v' W W' := by
 refine ⟨fun h' => absurd h' h, fun _ => ?_⟩;rw [hd, ← own_blk o1];refine ⟨t2, fun b hb => ?_⟩;rw [← own_blk t1] at hb;refine ⟨?_, (t1.lt b hb).2⟩;rcases t3 with h3 | h3
 ·exact Or.inr (h3 ▸ hb)
 ·rw [h3] at hb; cases hb; exact Or.inl (zqn _)
theorem grown_set (W : World) (g i : Nat) (v : Value) : W.grownBy (W.setCell ⟨g, i, none⟩ v) (some g) :=
 ⟨rfl, rfl, rfl, by simp [World.setCell], fun k _ hk => Below.heap_setCell W ⟨g, i, none⟩ v k (fun e => hk (by rw [e]))⟩
theorem rl_store {g : Nat} (h : kl j ≠ none) (hd : dv.headD undef = .pointer (some ⟨g, 0, none⟩)) (hv : v = .pointer (some ⟨g, 0, none⟩)) (hg : W.grownBy W' (some g)) (hl : g < W'.heap.size) : RlO al kl j dv v W W' := by
 refine ⟨fun h' => absurd h' h, fun _ => ?_⟩;rw [hd, hv];exact ⟨hg, fun b hb => ⟨Or.inr hb, by cases hb; exact hl⟩⟩
end
section
variable {P : Program}
theorem app_rows (W : World) (base : Nat) (t ty e : TypeId) (i : TypeInfo) (z : Value) (size bytes : Nat) (ht : P.underlying t = some (.slice e)) (hi : P.info? e = some i) (hz : i.zero = some z)
  (hsize : i.size = size) (hby : i.bytes = bytes) (hzs : z.cells.size = size) (hsz : 0 < size) (hbase : base ≤ W.heap.size)
  (v1 : Value) (k : Nat) (xs : List Value) (h1 : W.ownsRow base e size v1 k xs) (base2 : Nat) (v2 : Value) (m : Nat) (ys : List Value) (h2 : W.ownsRow base2 e size v2 m ys) (hone : ∀ u ∈ ys, u.oneCell' = true) (h63 : k + m ≤ maxLen) (hbytes : (k + m) * bytes ≤ 140737488355328) :
  ∃ v' W', (Builtin.append_ #[t, t] ty #[v1, v2]).run P W = .ok v' W' ∧ W'.ownsRow base e size v' (k + m) (xs ++ ys) ∧ W.grownBy W' v1.ownBlock ∧ (v'.ownBlock = v1.ownBlock ∨ v'.ownBlock = some W.heap.size) := by
 rcases h2.2 with ⟨rfl, rfl⟩ | ⟨g, cap, cur, rfl, hb, hg, hc, hm, hs, htk⟩
 ·have e0 : ys = [] := List.eq_nil_of_length_eq_zero (by rw [h2.1]; simp);subst e0;refine ⟨v1, W, run_append_owned_none W base t ty e i size ht hi v1 k xs h1, ?_, ⟨rfl, rfl, rfl, zqn _, fun _ _ _ => rfl⟩, Or.inl rfl⟩
  rw [Nat.add_zero, List.append_nil]; exact h1
 ·obtain ⟨v', W', hrun, r1, r2, _, r4⟩ := run_append_own_at (P := P) (w := W) base t ty e i z size bytes ht hi hz hsize hby hzs hsz v1 k xs h1 ⟨g, 0, none⟩ m cap ys h2.1 (h2.cells (g := g) rfl) hone h63 hbytes hbase;exact ⟨v', W', hrun, r1, r2, r4⟩
end
end Go
end
section
open Go Go.RowKit Cs
namespace Go.Proofs.YtmhllppjcilllaaGreatDoor
theorem row_ne {W : World} {g g' n n' : Nat} {t t' : TypeId} {f f' : Nat → Value} (h : W.rowIs g t n f) (h' : W.rowIs g' t' n' f') (ht : t ≠ t') : g ≠ g' := fun e => by
 subst e;have a := rowArr h;rw [rowArr h'] at a;injection a with a;injection a with _ a;exact ht a.symm
structure WtV (B M : Nat) (L H : List Pr) (v : Value) (g1 c1 g2 c2 : Nat) (F1 F2 : Nat → Value) (W : World) : Prop where
 v : v = wtsV (some ⟨g1, 0, none⟩) (some ⟨g2, 0, none⟩) M M c1 c2
 ne : g1 ≠ g2
 b1 : B ≤ g1
 b2 : B ≤ g2
 r1 : W.rowIs g1 33 (c1 * 2) F1
 r2 : W.rowIs g2 33 (c2 * 2) F2
 m1 : M ≤ c1
 m2 : M ≤ c2
 f1 : ∀ i, i < M * 2 → F1 i = prsF L i
 f2 : ∀ i, i < M * 2 → F2 i = prsF H i
 o1 : W.ownsRow B 33 2 (.slice (some ⟨g1, 0, none⟩) M c1) M ((List.range (M * 2)).map (prsF L))
 o2 : W.ownsRow B 33 2 (.slice (some ⟨g2, 0, none⟩) M c2) M ((List.range (M * 2)).map (prsF H))
theorem WtV.below {B M : Nat} {L H : List Pr} {v : Value} {g1 c1 g2 c2 : Nat} {F1 F2 : Nat → Value} {W W' : World} (h : WtV B M L H v g1 c1 g2 c2 F1 F2 W) (hb : Below W.heap.size W W') : WtV B M L H v g1 c1 g2 c2 F1 F2 W' :=
 ⟨h.v, h.ne, h.b1, h.b2, rowBelow h.r1 hb, rowBelow h.r2 hb, h.m1, h.m2, h.f1, h.f2, ownsBelow h.o1 hb, ownsBelow h.o2 hb⟩
theorem WtV.more {B B' M : Nat} {L H : List Pr} {v : Value} {g1 c1 g2 c2 : Nat} {F1 F2 : Nat → Value} {W : World} (h : WtV B M L H v g1 c1 g2 c2 F1 F2 W) (hB : B' ≤ B) : WtV B' M L H v g1 c1 g2 c2 F1 F2 W :=
 ⟨h.v, h.ne, Nat.le_trans hB h.b1, Nat.le_trans hB h.b2, h.r1, h.r2, h.m1, h.m2, h.f1, h.f2, owns_mono h.o1 hB, owns_mono h.o2 hB⟩
theorem AwR.wt {w W : World} {M : Nat} {L H : List Pr} {s1 s2 : Value} (h : AwR w M L H s1 s2 W) (hM : 0 < M) : ∃ g1 c1 g2 c2 F1 F2, WtV w.heap.size M L H (.agg #[s1, s2]) g1 c1 g2 c2 F1 F2 W := by
 have o1 := h.o1;have o2 := h.o2;obtain ⟨g1, c1, rfl, b1, m1, F1, r1, f1⟩ := PrOwn.of_own h.o1 hM;obtain ⟨g2, c2, rfl, b2, m2, F2, r2, f2⟩ := PrOwn.of_own h.o2 hM;exact ⟨g1, c1, g2, c2, F1, F2, rfl, fun e => h.dis g1 rfl (by rw [e]; rfl), b1, b2, r1, r2, m1, m2, f1, f2, o1, o2⟩
abbrev eRat (b : Nat) (p : Pr) : Nat × TypeId × Nat × (Nat → Value) := (b, 33, 2, ratF p.1 p.2)
abbrev ePrs (g m : Nat) (L : List Pr) : Nat × TypeId × Nat × (Nat → Value) := (g, 33, m * 2, prsF L)
abbrev eAsk (b : Nat) (N : Nt) (A : Option Addr) (c : Nat) (Aw : Option Addr) (lw cw : Nat) (At : Option Addr) (lt ct : Nat) : Nat × TypeId × Nat × (Nat → Value) := (b, 28, 4, arrF #[.int .i64 N.n, .slice A N.l.length c, .slice Aw lw cw, .slice At lt ct])
structure WnS (N : Nt) (A : Option Addr) (c b9 b10 g1 c1 g2 c2 M : Nat) (L H : List Pr) (W : World) : Prop where
 e0 : W.cell? ⟨b9, 0, none⟩ = some (.int .i64 N.n)
 e1 : W.cell? ⟨b9, 1, none⟩ = some (.slice A N.l.length c)
 e2 : W.cell? ⟨b10, 0, none⟩ = some (.slice (some ⟨g1, 0, none⟩) M c1)
 e3 : W.cell? ⟨b10, 1, none⟩ = some (.slice (some ⟨g2, 0, none⟩) M c2)
 nt : NtAt W W.heap.size A N.l
 rl : Rd W W.heap.size (some ⟨g1, 0, none⟩) (M * 2) (prsF L)
 rh : Rd W W.heap.size (some ⟨g2, 0, none⟩) (M * 2) (prsF H)
 tb : Tab W
theorem rd_row {W : World} {g n m : Nat} {t : TypeId} {F f : Nat → Value} (h : W.rowIs g t n F) (hm : m ≤ n) (hf : ∀ i, i < m → F i = f i) : Rd W W.heap.size (some ⟨g, 0, none⟩) m f := fun _ =>
 ⟨g, 0, rfl, h.lt, fun i hi => by rw [Nat.zero_add, h.cell (i := i) (by omega), hf i hi]⟩
theorem own_far {W : World} {B M c g b n : Nat} {e : TypeId} {xs : List Value} (h : W.ownsRow B e 2 (.slice (some ⟨g, 0, none⟩) M c) n xs) (hne : g ≠ b) (x y : Value) : ((W.setCell ⟨b, 0, none⟩ x).setCell ⟨b, 1, none⟩ y).ownsRow B e 2 (.slice (some ⟨g, 0, none⟩) M c) n xs := by
 have hn : (Value.slice (some ⟨g, 0, none⟩) M c).ownBlock ≠ some b := fun e => hne (by simpa [Value.ownBlock] using e);exact ownsRow_setCell_other (ownsRow_setCell_other h hn _) hn _
theorem WtV.far {B M : Nat} {L H : List Pr} {v : Value} {g1 c1 g2 c2 : Nat} {F1 F2 : Nat → Value} {W : World} (h : WtV B M L H v g1 c1 g2 c2 F1 F2 W) {b : Nat} (h1 : g1 ≠ b) (h2 : g2 ≠ b) (x y : Value) : WtV B M L H v g1 c1 g2 c2 F1 F2 ((W.setCell ⟨b, 0, none⟩ x).setCell ⟨b, 1, none⟩ y) :=
 ⟨h.v, h.ne, h.b1, h.b2, (h.r1.setOther h1 _).setOther h1 _, (h.r2.setOther h2 _).setOther h2 _, h.m1, h.m2, h.f1, h.f2,
   own_far h.o1 h1 _ _, own_far h.o2 h2 _ _⟩
theorem below_set2 {B : Nat} {w W : World} (h : Below B w W) {g : Nat} (hg : B ≤ g) (x y : Value) : Below B w ((W.setCell ⟨g, 0, none⟩ x).setCell ⟨g, 1, none⟩ y) := (h.setCell (p := ⟨g, 0, none⟩) hg _).setCell (p := ⟨g, 1, none⟩) hg _
theorem wn_of {w V1 : World} {N : Nt} {A : Option Addr} {c b9 b10 g1 c1 g2 c2 M B : Nat} {L H : List Pr} {v : Value} {F1 F2 : Nat → Value} (hN : NtAt w w.heap.size A N.l) (hT : Tab w) (bl : Below w.heap.size w V1)
  (r9 : V1.rowIs b9 24 2 (arrF #[.int .i64 N.n, .slice A N.l.length c])) (r10 : V1.rowIs b10 39 2 (arrF #[.slice (some ⟨g1, 0, none⟩) M c1, .slice (some ⟨g2, 0, none⟩) M c2])) (hq : WtV B M L H v g1 c1 g2 c2 F1 F2 V1) :
  ∀ W, Below V1.heap.size V1 W → WnS N A c b9 b10 g1 c1 g2 c2 M L H W := fun W hb => by
 have b2 := zqx bl hb bl.size;have q9 := rowBelow r9 hb;have q10 := rowBelow r10 hb;have hq' := hq.below hb;have m1 := hq'.m1;have m2 := hq'.m2;exact ⟨q9.cell (i := 0) (by decide), q9.cell (i := 1) (by decide), q10.cell (i := 0) (by decide), q10.cell (i := 1) (by decide), (hN.below b2).more b2.size, rd_row hq'.r1 (by omega) hq'.f1, rd_row hq'.r2 (by omega) hq'.f2, hT.below b2⟩
theorem WnS.cells {N : Nt} {A : Option Addr} {c b9 b10 g1 c1 g2 c2 M : Nat} {L H : List Pr} {W : World} (h : WnS N A c b9 b10 g1 c1 g2 c2 M L H W) : W.cell? ⟨b9, 0, none⟩ = some (.int .i64 N.n) ∧ W.cell? ⟨b9, 1, none⟩ = some (.slice A N.l.length c) ∧ W.cell? ⟨b10, 0, none⟩ = some (.slice (some ⟨g1, 0, none⟩) M c1) ∧ W.cell? ⟨b10, 1, none⟩ = some (.slice (some ⟨g2, 0, none⟩) M c2) := ⟨h.e0, h.e1, h.e2, h.e3⟩
theorem Kp_same0 {w W : World} {g n : Nat} {t : TypeId} {f f' : Nat → Value} {l : List (Nat × TypeId × Nat × (Nat → Value))} (h : Kp w ((g, t, n, f) :: l) W) (hf : ∀ i, i < n → f i = f' i) : Kp w ((g, t, n, f') :: l) W :=
 ⟨h.bl, fun r hr => by
   rcases List.mem_cons.1 hr with rfl | hr
   ·exact (h.row 0 rfl).congr hf
   ·exact h.rows r (List.mem_cons_of_mem _ hr)⟩
theorem info_int' : (Tryz.prog.info? 3).map (fun i => (i.zero, i.size, i.bytes)) = some (some (.int .i64 0), 1, 8) := by kernel_rfl
theorem tmA_same {v pk sg u j : Nat} (hu : u = j + 1) (h : ¬ (u ≠ v ∧ pk.testBit j = true)) : tmA v pk sg u = tmA v pk sg (u - 1) := by
 subst hu;rw [Nat.add_sub_cancel];show (if _ then _ else _) = _;rw [if_neg h]
theorem tmA_step {v pk sg u j : Nat} (hu : u = j + 1) (h : ¬ u = v) (hb : pk.testBit j = true) : tmA v pk sg u = tmA v pk sg (u - 1) ++ [if sg.testBit j then -(u : Int) else (u : Int)] := by
 subst hu;rw [Nat.add_sub_cancel];show (if _ then _ else _) = _;rw [if_pos ⟨h, hb⟩]
theorem oneI {x : Int} (u : Value) (h : u ∈ [Value.int .i64 x]) : u.oneCell' = true := by
 simp at h; subst h; rfl
theorem app_int (W : World) (base : Nat) (hbase : base ≤ W.heap.size) (v1 : Value) (k : Nat) (xs : List Value) (h1 : W.ownsRow base 3 1 v1 k xs) (base2 : Nat) (v2 : Value) (m : Nat) (ys : List Value) (h2 : W.ownsRow base2 3 1 v2 m ys) (hone : ∀ u ∈ ys, u.oneCell' = true) (hk : k + m ≤ 100000) :
  ∃ v' W', (Builtin.append_ #[26, 26] 26 #[v1, v2]).run Tryz.prog W = .ok v' W' ∧ W'.ownsRow base 3 1 v' (k + m) (xs ++ ys) ∧ W.grownBy W' v1.ownBlock ∧ (v'.ownBlock = v1.ownBlock ∨ v'.ownBlock = some W.heap.size) := by
 obtain ⟨i0, hi0, hz0, hz1, hz2⟩ := info_parts info_int';exact app_rows W base 26 26 3 i0 (.int .i64 0) 1 8 Tryz.underlying26 hi0 hz0 hz1 hz2 rfl (by decide) hbase v1 k xs h1 base2 v2 m ys h2 hone (by unfold maxLen; omega) (by omega)
theorem ints_one (l : List Int) : ∀ u ∈ l.map (fun x => Value.int .i64 x), u.oneCell' = true := fun u hu => by
 obtain ⟨x, _, rfl⟩ := List.mem_map.1 hu
 rfl
theorem own_ints {W : World} {base n : Nat} {e : TypeId} {v : Value} {xs : List Value} {ts : List Int} (h : W.ownsRow base e 1 v n xs) (hx : xs = ts.map fun x => .int .i64 x) (hn : n = ts.length) : ∃ At ct, v = .slice At ts.length ct ∧ Rd W W.heap.size At ts.length (intF ts) := by
 subst hn hx;obtain ⟨a, ct, rfl⟩ := owns_slice h;refine ⟨a, ct, rfl, fun hpos => ?_⟩;rcases h.2 with ⟨_, h0⟩ | ⟨g, cap, cur, hv, hb, hg, hc, _, hs, ht⟩
 ·omega
 ·simp only [Value.slice.injEq] at hv;obtain ⟨rfl, _, _⟩ := hv;refine ⟨g, 0, rfl, (Array.getElem?_eq_some_iff.1 hg).1, fun i hi => ?_⟩;rw [Nat.zero_add];have h1 := h.cells (g := g) rfl i (.int .i64 (ts.getD i 0)) (by rw [List.getElem?_map, List.getElem?_eq_getElem hi, List.getD_eq_getElem?_getD, List.getElem?_eq_getElem hi]; rfl)
  have hadd : (⟨g, 0, none⟩ : Addr).add i = ⟨g, i, none⟩ := by unfold Addr.add; split <;> simp_all
  rw [hadd] at h1;exact h1
theorem termB_r64 {m : Int} {n : Nat} {t : List Int} (hn : m = (n : Int)) (h : n ≤ 128) (ht : termB m t = true) : ∀ x ∈ t, -9223372036854775808 ≤ x ∧ x ≤ 9223372036854775807 := fun x hx => by
 have := termB_lits ht hn h x hx;omega
end Go.Proofs.YtmhllppjcilllaaGreatDoor
end
