/- The walk of the laws' Copy. -/
import Derived.Test.YtemgfhdgpkmmaaaDoorHa
import Derived.Test.YtemgfhdgpkmmaaaDoorBg
import Derived.Laws.AppendOwn
set_option linter.unusedSimpArgs false
set_option linter.unusedVariables false
open Go Go.RowKit Cs
namespace Go.Proofs.YtemgfhdgpkmmaaaDoor
/-- A slice of numbers in a row of its own, from D on. -/
def CpI (w : World) (D : Nat) (A : Option Addr) (xs : List Int) : Prop := 0 < xs.length → ∃ g cap f, A = some ⟨g, 0, none⟩ ∧ D ≤ g ∧ w.rowIs g 3 cap f ∧ xs.length ≤ cap ∧ ∀ i, i < xs.length → f i = intF xs i
theorem CpI.kept {w w' : World} {D : Nat} {A : Option Addr} {xs : List Int} (h : CpI w D A xs) (hw : ∀ b, D ≤ b → b < w.heap.size → (∃ c fr, w.heap[b]? = some (.cells c 3 fr)) → w'.heap[b]? = w.heap[b]?) : CpI w' D A xs := fun hn => by
  obtain ⟨g, cap, f, e, hD, hr, hc, hf⟩ := h hn
  refine ⟨g, cap, f, e, hD, hr.of_block (hw g hD hr.lt ?_), hc, hf⟩
  obtain ⟨c, hb, _, _⟩ := hr
  exact ⟨c, _, hb⟩
theorem CpI.below {w w' : World} {D : Nat} {A : Option Addr} {xs : List Int} (h : CpI w D A xs) (hb : Below w.heap.size w w') : CpI w' D A xs := h.kept fun b _ hl _ => hb.block b hl
/-- The cells cs are those of the nodes l, the inputs in rows of their own. -/
def CpC (w : World) (D : Nat) (l : List Nd) (cs : List Value) : Prop := cs.length = l.length * 3 ∧ ∀ i (h : i < l.length), cs[i * 3]? = some (.int .i64 l[i].kind) ∧ cs[i * 3 + 1]? = some (.int .i64 l[i].lit) ∧ ∃ A c, cs[i * 3 + 2]? = some (.slice A l[i].ins.length c) ∧ CpI w D A l[i].ins
theorem CpC.kept {w w' : World} {D : Nat} {l : List Nd} {cs : List Value} (h : CpC w D l cs) (hw : ∀ b, D ≤ b → b < w.heap.size → (∃ c fr, w.heap[b]? = some (.cells c 3 fr)) → w'.heap[b]? = w.heap[b]?) : CpC w' D l cs :=
  ⟨h.1, fun i hi => (let ⟨h1, h2, A, c, h3, h4⟩ := h.2 i hi; ⟨h1, h2, A, c, h3, h4.kept hw⟩)⟩
theorem CpC.below {w w' : World} {D : Nat} {l : List Nd} {cs : List Value} (h : CpC w D l cs) (hb : Below w.heap.size w w') : CpC w' D l cs := h.kept fun b _ hl _ => hb.block b hl
theorem CpC.snoc {w : World} {D : Nat} {l : List Nd} {cs : List Value} {x : Nd} {A : Option Addr} {c : Nat} (h : CpC w D l cs) (hx : CpI w D A x.ins) : CpC w D (l ++ [x]) (cs ++ [.int .i64 x.kind, .int .i64 x.lit, .slice A x.ins.length c]) := by
  obtain ⟨h1, h2⟩ := h
  refine ⟨by simp [h1]; omega, fun i hi => ?_⟩
  rcases Nat.lt_or_ge i l.length with hl | hl
  · obtain ⟨a1, a2, A1, c1, a3, a4⟩ := h2 i hl
    have e : (l ++ [x])[i] = l[i] := List.getElem_append_left hl
    rw [e]
    refine ⟨?_, ?_, A1, c1, ?_, a4⟩ <;> rw [List.getElem?_append_left (by omega)] <;> assumption
  · have e : (l ++ [x])[i] = x := by
      simp at hi
      obtain rfl : i = l.length := by omega
      simp
    rw [e]
    have hi2 : i = l.length := by simp at hi; omega
    subst hi2
    refine ⟨?_, ?_, A, c, ?_, hx⟩ <;> rw [List.getElem?_append_right (by omega), h1]
    · simp
    · rw [show l.length * 3 + 1 - l.length * 3 = 1 by omega]; rfl
    · rw [show l.length * 3 + 2 - l.length * 3 = 2 by omega]; rfl
theorem newThree {w : World} {a b c : Value} {t : TypeId} {g : Nat} (hg : w.heap.size = g) (j : Nat) (u : Value) (h : ([a, b, c] : List Value)[j]? = some u) : (w.alloc (.cells #[a, b, c] t)).cell? ((⟨g, 0, none⟩ : Addr).add j) = some u := by
  have hr := row3 w a b c t _ hg
  match j, h with
  | 0, h => simp at h; subst h; exact hr.cell (i := 0) (by decide)
  | 1, h => simp at h; subst h; exact hr.cell (i := 1) (by decide)
  | 2, h => simp at h; subst h; exact hr.cell (i := 2) (by decide)
theorem threeNd {k l : Int} {A : Option Addr} {n c : Nat} (u : Value) (h : u ∈ [Value.int .i64 k, .int .i64 l, .slice A n c]) : u.oneCell' = true := by
  simp at h; rcases h with rfl | rfl | rfl <;> rfl
theorem made2 (w : World) (cs : Array Value) (t t' : TypeId) (base : Nat) (hb : base ≤ w.heap.size + 1) : ((w.alloc (.cells cs t)).alloc (.cells #[] t')).ownsRow base t' 1 (.slice (some ⟨w.heap.size + 1, 0, none⟩) 0 0) 0 [] := by
  have h := World.ownsRow_made (w.alloc (.cells cs t)) (base := base) (e := t') (size := 1) #[] 0 (by simpa using hb) (Nat.zero_le _) rfl
  simpa using h
theorem cpI_mk {w : World} {base : Nat} {v : Value} {xs : List Int} (h : w.ownsRow base 3 1 v xs.length (xs.map (Value.int .i64))) : ∃ A c, v = .slice A xs.length c ∧ CpI w base A xs := by
  rcases Nat.eq_zero_or_pos xs.length with h0 | h0
  · rcases h.2 with ⟨e, _⟩ | ⟨g, cap, cur, e, _⟩
    · exact ⟨none, 0, by rw [e, h0], fun h' => absurd h' (by omega)⟩
    · exact ⟨_, _, by rw [e], fun h' => absurd h' (by omega)⟩
  · obtain ⟨g, cap, f, rfl, hg, hlt, hc, hr, hf⟩ := ownsRowIs h h0
    refine ⟨_, _, rfl, fun _ => ⟨g, cap, f, rfl, hg, by simpa using hr, hc, fun i hi => ?_⟩⟩
    have := hf i (by omega)
    simp [List.getElem?_eq_getElem hi] at this
    rw [← this]
    simp [intF, List.getD, List.getElem?_eq_getElem hi]
theorem CpI.mono {w : World} {D D' : Nat} {A : Option Addr} {xs : List Int} (h : CpI w D A xs) (hD : D' ≤ D) : CpI w D' A xs := fun hn => (let ⟨g, cap, f, e, h1, h2⟩ := h hn; ⟨g, cap, f, e, Nat.le_trans hD h1, h2⟩)
/-- The copy half made. -/
structure CpS (w : World) (N : Nt) (R : List (Nat × TypeId × Nat × Array Value)) (k : Nat) (v : Value) (cs : List Value) (wr : World) : Prop where
  box : wr.rowIs (w.heap.size + 1 + 1) 24 2 (fun i => if i = 0 then .int .i64 N.n else v)
  own : wr.ownsRow (w.heap.size + 1 + 1 + 1) 41 3 v k cs
  cells : CpC wr (w.heap.size + 1 + 1 + 1) (N.l.take k) cs
  bag : Bag w w w.heap.size R wr
  low : ∀ r ∈ R, r.1 < w.heap.size + 1 + 1
theorem grownBag {w w0 wr w' : World} {D : Nat} {row : Option Nat} {R : List (Nat × TypeId × Nat × Array Value)} (h : Bag w w0 D R wr) (hg : wr.grownBy w' row) (hD : ∀ g, row = some g → D ≤ g ∧ ∀ r ∈ R, r.1 ≠ g) : Bag w w0 D R w' :=
  ⟨fun r hr => (h.rows r hr).of_block (hg.block _ (h.rows r hr).lt (by intro e; exact (hD _ e.symm).2 r hr rfl)), h.base.grown hg h.le (fun k e => (hD k e).1), h.bl.grown hg (Nat.le_trans h.wD h.le) (fun k e => Nat.le_trans h.wD (hD k e).1), Nat.le_trans h.le hg.size, h.wD⟩
theorem CpS.grown {w wr w' : World} {N : Nt} {R : List (Nat × TypeId × Nat × Array Value)} {k : Nat} {v : Value} {cs : List Value} (h : CpS w N R k v cs wr) {row : Option Nat} (hg : wr.grownBy w' row) (hr : ∀ g, row = some g → wr.heap.size ≤ g) : CpS w N R k v cs w' := by
  have hlt : ∀ b, b < wr.heap.size → w'.heap[b]? = wr.heap[b]? := fun b hb => hg.block b hb (by intro e; have := hr b e.symm; omega)
  have hl := h.box.lt
  refine ⟨h.box.of_block (hlt _ h.box.lt), h.own.kept hg ?_, h.cells.kept (fun b _ hb _ => hlt b hb), grownBag h.bag hg (fun g e => ⟨by have := hr g e; have := h.bag.le; omega, fun r hr' => by have := h.low r hr'; have := hr g e; omega⟩), h.low⟩
  cases hv : v.ownBlock with
  | none => exact .inl rfl
  | some b =>
    refine .inr ?_
    cases row with
    | none => simp
    | some g =>
      intro e
      injection e with e
      have := h.own.lt b hv
      have := hr g rfl
      omega
theorem ownSet {w1 : World} {base X k : Nat} {e : TypeId} {v : Value} {cs : List Value} (h : w1.ownsRow base e 3 v k cs) (hv : v.ownBlock ≠ some X) (u : Value) (o : Obj) : ((w1.setCell ⟨X, 2, none⟩ u).alloc o).ownsRow base e 3 v k cs := by
  refine World.ownsRow.alloc ⟨h.1, ?_⟩ o
  rcases h.2 with hn | ⟨g, cap, cur, rfl, hb, e, rest⟩
  · exact .inl hn
  · refine .inr ⟨g, cap, cur, rfl, hb, ?_, rest⟩
    rw [Below.heap_setCell _ _ _ _ (by intro e2; simp at e2; exact hv (by simp [Value.ownBlock, e2]))]
    exact e
/-- One node behind the others. -/
theorem CpS.stepM {w w1 w4 : World} {N : Nt} {R : List (Nat × TypeId × Nat × Array Value)} {k X c2 : Nat} {v v4 : Value} {cs : List Value} {x : Nd} {A2 : Option Addr}
    (h : CpS w N R k v cs w1) (hx : N.l.take (k + 1) = N.l.take k ++ [x]) (hX : ∀ c fr, w1.heap[X]? ≠ some (.cells c 3 fr)) (hlo : w.heap.size + 1 + 1 < X) (hcp : CpI w1 (w.heap.size + 1 + 1 + 1) A2 x.ins)
    (hbs : ∀ b, b ≠ X → b < w1.heap.size → some b ≠ v.ownBlock → w4.heap[b]? = w1.heap[b]?) (hq : Bag w w w.heap.size R w4)
    (ho : w4.ownsRow (w.heap.size + 1 + 1 + 1) 41 3 v4 (k + 1) (cs ++ [.int .i64 x.kind, .int .i64 x.lit, .slice A2 x.ins.length c2])) :
    CpS w N R (k + 1) v4 (cs ++ [.int .i64 x.kind, .int .i64 x.lit, .slice A2 x.ins.length c2]) (w4.setCell ⟨w.heap.size + 1 + 1, 1, none⟩ v4) := by
  obtain ⟨h1, h2, h3, h4, h5⟩ := h
  have hint : ∀ b, w.heap.size + 1 + 1 + 1 ≤ b → b < w1.heap.size → (∃ c fr, w1.heap[b]? = some (.cells c 3 fr)) → (w4.setCell ⟨w.heap.size + 1 + 1, 1, none⟩ v4).heap[b]? = w1.heap[b]? := fun b hb hl ⟨c, fr, e⟩ => by
    rw [Below.heap_setCell _ _ _ _ (by simp; omega)]
    refine hbs b ?_ hl ?_
    · rintro rfl
      exact hX _ _ e
    · intro e2
      rcases h2.2 with ⟨rfl, _⟩ | ⟨g, cap, cur, rfl, _, e', _⟩
      · cases e2
      · simp [Value.ownBlock] at e2
        subst e2
        rw [e] at e'
        cases e'
  have hv : ∀ g, v.ownBlock = some g → w.heap.size + 1 + 1 + 1 ≤ g := fun g e => (h2.lt g e).1
  refine ⟨?_, ?_, ?_, ?_, h5⟩
  · have hb4 : w4.rowIs (w.heap.size + 1 + 1) 24 2 (fun i => if i = 0 then .int .i64 N.n else v) := h1.of_block (hbs _ (by omega) h1.lt (by intro e; have := hv _ e.symm; omega))
    refine (hb4.set 1 v4).congr fun i hi => ?_
    have : i = 0 ∨ i = 1 := by omega
    rcases this with rfl | rfl <;> rfl
  · refine ⟨ho.1, ?_⟩
    rcases ho.2 with hn | ⟨g, cap, cur, rfl, hb, e, rest⟩
    · exact .inl hn
    · refine .inr ⟨g, cap, cur, rfl, hb, ?_, rest⟩
      rw [Below.heap_setCell _ _ _ _ (by simp; omega)]
      exact e
  · rw [hx]
    exact (h3.kept hint).snoc (fun hn => by
      obtain ⟨g, cap, f, e, hD, hr, hc, hf⟩ := hcp hn
      refine ⟨g, cap, f, e, hD, hr.of_block (hint g hD hr.lt ?_), hc, hf⟩
      obtain ⟨c, hb, _, _⟩ := hr
      exact ⟨c, _, hb⟩)
  · exact hq.other (by omega) (fun r hr => by have := h5 r hr; omega) 1 v4
theorem CpS.step {w w1 w4 : World} {N : Nt} {R : List (Nat × TypeId × Nat × Array Value)} {k X c2 : Nat} {v v4 : Value} {cs : List Value} {x : Nd} {A2 : Option Addr} {F : Nat → Value} {o : Obj}
    (h : CpS w N R k v cs w1) (hx : N.l.take (k + 1) = N.l.take k ++ [x]) (hX : w1.rowIs X 41 3 F) (hlo : w.heap.size + 1 + 1 < X) (hcp : CpI w1 (w.heap.size + 1 + 1 + 1) A2 x.ins) (u : Value)
    (hg : ((w1.setCell ⟨X, 2, none⟩ u).alloc o).grownBy w4 v.ownBlock)
    (ho : w4.ownsRow (w.heap.size + 1 + 1 + 1) 41 3 v4 (k + 1) (cs ++ [.int .i64 x.kind, .int .i64 x.lit, .slice A2 x.ins.length c2])) :
    CpS w N R (k + 1) v4 (cs ++ [.int .i64 x.kind, .int .i64 x.lit, .slice A2 x.ins.length c2]) (w4.setCell ⟨w.heap.size + 1 + 1, 1, none⟩ v4) := by
  have hv : ∀ g, v.ownBlock = some g → w.heap.size + 1 + 1 + 1 ≤ g := fun g e => (h.own.lt g e).1
  refine h.stepM hx ?_ hlo hcp (fun b hb hl hne => by
    rw [hg.block b (by simp; omega) hne, (World.grownBy_alloc _ o none).block b (by simp; omega) (by simp), Below.heap_setCell _ _ _ _ hb]) (grownBag ((h.bag.other (X := X) (by omega) (fun r hr => by have := h.low r hr; omega) 2 u).alloc o) hg (fun g e => ⟨by have := hv g e; omega, fun r hr => by have := h.low r hr; have := hv g e; omega⟩)) ho
  intro c fr e
  obtain ⟨c', e', _⟩ := hX
  rw [e] at e'
  cases e'
theorem CpS.step0 {w w1 w4 : World} {N : Nt} {R : List (Nat × TypeId × Nat × Array Value)} {k c2 : Nat} {v v4 : Value} {cs : List Value} {x : Nd} {A2 : Option Addr} {o1 o2 o3 : Obj}
    (h : CpS w N R k v cs w1) (hx : N.l.take (k + 1) = N.l.take k ++ [x]) (hi : x.ins = [])
    (hg : (((w1.alloc o1).alloc o2).alloc o3).grownBy w4 v.ownBlock)
    (ho : w4.ownsRow (w.heap.size + 1 + 1 + 1) 41 3 v4 (k + 1) (cs ++ [.int .i64 x.kind, .int .i64 x.lit, .slice A2 x.ins.length c2])) :
    CpS w N R (k + 1) v4 (cs ++ [.int .i64 x.kind, .int .i64 x.lit, .slice A2 x.ins.length c2]) (w4.setCell ⟨w.heap.size + 1 + 1, 1, none⟩ v4) := by
  have hv : ∀ g, v.ownBlock = some g → w.heap.size + 1 + 1 + 1 ≤ g := fun g e => (h.own.lt g e).1
  have hl := h.box.lt
  refine h.stepM (X := w1.heap.size) hx ?_ hl (fun hn => absurd hn (by simp [hi])) (fun b hb hl hne => ?_) (grownBag (((h.bag.alloc o1).alloc o2).alloc o3) hg (fun g e => ⟨by have := hv g e; omega, fun r hr => by have := h.low r hr; have := hv g e; omega⟩)) ho
  · intro c fr e
    rw [Array.getElem?_eq_none (Nat.le_refl _)] at e
    cases e
  · rw [hg.block b (by simp; omega) hne, (World.grownBy_alloc _ o3 none).block b (by simp; omega) (by simp), (World.grownBy_alloc _ o2 none).block b (by simp; omega) (by simp), (World.grownBy_alloc _ o1 none).block b hl (by simp)]
/-- A copy: its nodes in a row of their own, all from D on. -/
def CpN (w : World) (D : Nat) (B : Option Addr) (l : List Nd) : Prop := 0 < l.length → ∃ g cap F, B = some ⟨g, 0, none⟩ ∧ D ≤ g ∧ w.rowIs g 41 (cap * 3) F ∧ l.length ≤ cap ∧ ∀ i (h : i < l.length), F (i * 3) = .int .i64 l[i].kind ∧ F (i * 3 + 1) = .int .i64 l[i].lit ∧ ∃ A c, F (i * 3 + 2) = .slice A l[i].ins.length c ∧ CpI w D A l[i].ins
theorem cpN_mk {w : World} {D : Nat} {v : Value} {l : List Nd} {cs : List Value} (h : w.ownsRow D 41 3 v l.length cs) (hc : CpC w D l cs) : ∃ B cb, v = .slice B l.length cb ∧ CpN w D B l := by
  rcases Nat.eq_zero_or_pos l.length with h0 | h0
  · rcases h.2 with ⟨e, _⟩ | ⟨g, cap, cur, e, _⟩
    · exact ⟨none, 0, by rw [e, h0], fun h' => absurd h' (by omega)⟩
    · exact ⟨_, _, by rw [e], fun h' => absurd h' (by omega)⟩
  · obtain ⟨g, cap, f, rfl, hg, hlt, hcp, hr, hf⟩ := ownsRowIs h h0
    refine ⟨_, _, rfl, fun _ => ⟨g, cap, f, rfl, hg, hr, hcp, fun i hi => ?_⟩⟩
    obtain ⟨h1, h2, A, c, h3, h4⟩ := hc.2 i hi
    rw [hf _ (by omega)] at h1 h2 h3
    injection h1 with h1
    injection h2 with h2
    injection h3 with h3
    exact ⟨h1, h2, A, c, h3, h4⟩
theorem CpN.kept {w w' : World} {D : Nat} {B : Option Addr} {l : List Nd} (h : CpN w D B l) (hw : ∀ b, D ≤ b → b < w.heap.size → w'.heap[b]? = w.heap[b]?) : CpN w' D B l := fun hn => (let ⟨g, cap, F, e, h1, h2, h3, h4⟩ := h hn; ⟨g, cap, F, e, h1, h2.of_block (hw g h1 h2.lt), h3, fun i hi => (let ⟨a, b, A, c, d, e⟩ := h4 i hi; ⟨a, b, A, c, d, e.kept fun b hb hl _ => hw b hb hl⟩)⟩)
theorem CpN.mono {w : World} {D D' : Nat} {B : Option Addr} {l : List Nd} (h : CpN w D B l) (hD : D' ≤ D) : CpN w D' B l := fun hn => (let ⟨g, cap, F, e, h1, h2, h3, h4⟩ := h hn; ⟨g, cap, F, e, Nat.le_trans hD h1, h2, h3, fun i hi => (let ⟨a, b, A, c, d, e⟩ := h4 i hi; ⟨a, b, A, c, d, e.mono hD⟩)⟩)
abbrev cpBag (w : World) (N : Nt) (A : Option Addr) (c : Nat) : List (Nat × TypeId × Nat × Array Value) := [(w.heap.size + 1, 24, 2, #[.int .i64 0, .slice none 0 0]), (w.heap.size, 24, 2, #[.int .i64 N.n, .slice A N.l.length c])]
set_option maxRecDepth 100000 in
set_option maxHeartbeats 2000000 in
theorem copy_any (w : World) (N : Nt) (A : Option Addr) (c : Nat) (hlen : N.l.length ≤ 1000000) (hsl : slim N.l = true) (hN : NtAt w w.heap.size A N.l) :
    Calls Tryd.prog 27 #[ntV N A c] w fun e w' => ∃ B cb, e = .returned (ntV N B cb) ∧ CpN w' w.heap.size B N.l ∧ Below w.heap.size w w' := by
  have hq0 := (((Bag.start (Below.refl _ w)).new #[.int .i64 N.n, .slice A N.l.length c] 24 w.heap.size 2 rfl rfl).new #[.int .i64 0, .slice none 0 0] 24 (w.heap.size + 1) 2 (by simp) rfl).new #[.int .i64 N.n, .slice none 0 0] 24 (w.heap.size + 1 + 1) 2 (by simp) rfl
  obtain ⟨ti, hti, ht0, ht1, ht2⟩ := info_parts info_int'
  obtain ⟨ni, hni, hn0, hn1, hn2⟩ := info_parts info_node
  go_enter Tryd.func27, Tryd.ntmps27
  go_wp2_with fail
  have hq0' := hq0.tail
  have hob : (((w.alloc (.cells #[.int .i64 N.n, .slice A N.l.length c] 24)).alloc (.cells #[.int .i64 0, .slice none 0 0] 24)).alloc (.cells #[.int .i64 N.n, .slice none 0 0] 24)).rowIs (w.heap.size + 1 + 1) 24 2 (fun i => if i = 0 then .int .i64 N.n else .slice none 0 0) := pairNew _ _ _ _ _ (by simp)
  go_loopw [12] (fun t wr => ∃ (k : Nat) (v : Value) (cs : List Value), k ≤ N.l.length ∧ t = .int .i64 (k : Int) ∧ CpS w N (cpBag w N A c) k v cs wr) (fun t _ => N.l.length - (intOf t).toNat)
  case atStart => exact ⟨0, .slice none 0 0, [], by omega, rfl, hob, World.ownsRow_nil _ _ _ _, ⟨rfl, fun i h => absurd h (by simp)⟩, hq0', fun r hr => by
    simp only [cpBag, List.mem_cons, List.not_mem_nil, or_false] at hr
    rcases hr with rfl | rfl
    · exact Nat.lt_succ_self _
    · exact Nat.lt_succ_of_lt (Nat.lt_succ_self _)⟩
  case round =>
    clear hq0 hq0' hob
    obtain ⟨k, v, cs, hk, rfl, hcs⟩ := hrel
    have hob := hcs.box
    have hown := hcs.own
    have q := hcs.bag
    by_cases hlt : k < N.l.length
    · obtain ⟨b, o, rfl, hbB, hcls⟩ := hN (by omega)
      have hnd := hcls k hlt
      clear hcls
      have hsx := slim_at hsl hlt
      have htk : N.l.take (k + 1) = N.l.take k ++ [N.l[k]] := List.take_succ_eq_append_getElem hlt
      obtain ⟨x, hx⟩ : ∃ x, N.l[k] = x := ⟨_, rfl⟩
      rw [hx] at hnd hsx htk
      have HTK := Lib.hid htk
      clear hx htk
      obtain ⟨hk1, hk2, ⟨A', c', hk3, hrd⟩, hr1, hr2, hr3, hr4⟩ := hnd
      have hrd2 := hrd.below q.bl
      replace hk1 := below_cell q.bl hbB hk1
      replace hk2 := below_cell q.bl hbB hk2
      replace hk3 := below_cell q.bl hbB hk3
      have HRD := Lib.hid hrd2
      clear hrd hrd2
      have hzo := hob.lt
      have hvlt := fun g e => (hown.lt g e).2
      have HV : Hid (∀ g, v.ownBlock = some g → g < wr.heap.size) := Lib.hid hvlt
      have hvlo := fun g e => (hown.lt g e).1
      have HVL : Hid (∀ g, v.ownBlock = some g → w.heap.size + 1 + 1 + 1 ≤ g) := Lib.hid hvlo
      have HO := Lib.hid hown
      clear hvlt hvlo hown
      have hn63 : k + 1 ≤ maxLen := by unfold maxLen; omega
      cases A' with
      | none =>
        have h0 : x.ins = [] := by
          rcases Nat.eq_zero_or_pos x.ins.length with h | h
          · exact List.eq_nil_of_length_eq_zero h
          · obtain ⟨_, _, e, _⟩ := HRD.out h; cases e
        obtain ⟨xk, xl, xi⟩ := x
        subst h0
        clear HRD
        dsimp only [List.length_nil] at hk1 hk2 hk3 hr1 hr2
        have b1 := hob.cell (i := 1) (by decide)
        have f1 := hob.frozen 1
        simp at b1
        have b5 : ((wr.alloc (.cells #[.int .i64 xk, .int .i64 xl, .slice (some ⟨wr.heap.size + 1, 0, none⟩) 0 0] 41)).alloc (.cells #[] 3)).cell? ⟨w.heap.size + 1 + 1, 1, none⟩ = some v := Lib.cell?_alloc_some _ (Lib.cell?_alloc_some _ b1)
        have HO1 : Hid (∀ o1 o2 o3, (((wr.alloc o1).alloc o2).alloc o3).ownsRow (w.heap.size + 1 + 1 + 1) 41 3 v k cs) := Lib.hid fun o1 o2 o3 => ((HO.out.alloc o1).alloc o2).alloc o3
        have HC1 := Lib.hid hcs
        clear hcs HO
        go_wp2_with (at_builtin; refine wpList_append_own _ rfl _ _ 22 rfl (w.heap.size + 1 + 1 + 1) 41 ni (.agg #[.int .i64 0, .int .i64 0, .slice none 0 0]) 3 40 Tryd.underlying22 hni hn0 hn1 hn2 rfl (by decide) v k cs rfl (HO1.out _ _ _) ⟨wr.heap.size + 1 + 1, 0, none⟩ 1 1 [.int .i64 xk, .int .i64 xl, .slice (some ⟨wr.heap.size + 1, 0, none⟩) 0 0] rfl rfl (newThree (by simp)) threeNd ?qd1 ?qd2 ?qd3 ?_)
        case qd2 => omega
        case qd3 => omega
        intro v4 w4 hown4 hgrow4 hnil4
        obtain ⟨g4, cap4, rfl⟩ : ∃ g cap, v4 = .slice (some ⟨g, 0, none⟩) (k + 1) cap := by
          rcases hown4.2 with ⟨_, e⟩ | ⟨g, cap, cur, e, _⟩
          · omega
          · exact ⟨g, cap, e⟩
        have hb4 := hob.of_block (w' := w4) ((hgrow4.block _ (by simp; omega) (by intro e; have := HVL.out _ e.symm; omega)).trans (((World.grownBy_alloc _ _ none).block _ (by simp; omega) (by simp)).trans (((World.grownBy_alloc _ _ none).block _ (by simp; omega) (by simp)).trans ((World.grownBy_alloc wr _ none).block _ hzo (by simp)))))
        have b4 := hb4.cell (i := 1) (by decide)
        have f4 := hb4.frozen 1
        simp at b4
        have hcs4 := CpS.step0 (x := ⟨xk, xl, []⟩) (A2 := some ⟨wr.heap.size + 1, 0, none⟩) (c2 := 0) HC1.out HTK.out rfl hgrow4 hown4
        have HC4 := Lib.hid hcs4
        clear hcs4 hb4 hown4 hgrow4 hnil4
        go_wp2
        go_roundw
        case rel => exact ⟨k + 1, _, _, by omega, by go_num, HC4.out⟩
        case measure => simp [intOf]; omega
      | some a =>
        go_wp2_with (at_builtin; refine wpList_append_own _ rfl _ _ 39 rfl (wr.heap.size + 1) 3 ti (.int .i64 0) 1 8 Tryd.underlying39 hti ht0 ht1 ht2 rfl (by decide) _ _ _ rfl (made2 wr _ _ _ (wr.heap.size + 1) (Nat.le_refl _)) a x.ins.length c' (x.ins.map (Value.int .i64)) rfl ?qc1 ?qc2 ?qc3 ?qc4 ?qc5 ?qc6 ?_)
        case qc1 => simp
        case qc2 =>
          intro j u hj
          have hjn : j < x.ins.length := by
            have := (List.getElem?_eq_some_iff.1 hj).1
            simpa using this
          obtain ⟨b', o', e, hB, hc⟩ := HRD.out (by omega)
          obtain rfl : a = ⟨b', o', none⟩ := by injection e
          rw [Addr.add_lit]
          refine Lib.cell?_alloc_some _ (Lib.cell?_alloc_some _ ?_)
          rw [hc j hjn]
          have e : (x.ins.map (Value.int .i64))[j]? = some (intF x.ins j) := by simp [intF, List.getD, List.getElem?_eq_getElem hjn]
          rw [e] at hj
          exact hj
        case qc3 => intro u hu; obtain ⟨y, _, rfl⟩ := List.mem_map.1 hu; rfl
        case qc4 => unfold maxLen; omega
        case qc5 => omega
        case qc6 => simp
        intro v' w1 hown1 hgrow1 hnil1
        obtain ⟨A2, c2, rfl, hcp⟩ := cpI_mk (by simpa using hown1)
        clear hown1 hnil1
        have hg1 : ∀ g, (Value.slice (some ⟨wr.heap.size + 1, 0, none⟩) 0 0).ownBlock = some g → wr.heap.size + 1 ≤ g := by intro g e; injection e with e; exact Nat.le_of_eq e
        have hcs1 : CpS w N (cpBag w N (some ⟨b, o, none⟩) c) k v cs w1 := hcs.grown (row := (Value.slice (some ⟨wr.heap.size + 1, 0, none⟩) 0 0).ownBlock) (((World.grownBy_alloc wr _ _).trans (World.grownBy_alloc _ _ _)).trans hgrow1) (fun g e => by have := hg1 g e; omega)
        have hl1 : w1.heap.size ≥ wr.heap.size + 1 := by have := hgrow1.size; simp at this; omega
        have hnd1 : w1.rowIs wr.heap.size 41 3 _ := rowGrown ((row3 wr _ _ _ _ _ rfl).alloc _) hgrow1 (by simp [Value.ownBlock])
        have hob1 := hcs1.box
        have b1 := hob1.cell (i := 1) (by decide)
        have f1 := hob1.frozen 1
        have d0 := hnd1.cell (i := 0) (by decide)
        have d1 := hnd1.cell (i := 1) (by decide)
        have d2 := hnd1.cell (i := 2) (by decide)
        have f2 := hnd1.frozen 2
        simp only at b1 d0 d1 d2
        have hown1 : ∀ (u : Value) (o : Obj), ((w1.setCell ⟨wr.heap.size, 2, none⟩ u).alloc o).ownsRow (w.heap.size + 1 + 1 + 1) 41 3 v k cs := fun u o => ownSet (hcs1.own) (fun e => by have := HV.out _ e; omega) u o
        have HO1 := Lib.hid hown1
        have HC1 := Lib.hid hcs1
        have HN1 := Lib.hid hnd1
        have HCP := Lib.hid hcp
        clear hown1 hcs1 hcp hcs HO hnd1 hgrow1 hg1
        go_wp2_with (at_builtin; refine wpList_append_own _ rfl _ _ 22 rfl (w.heap.size + 1 + 1 + 1) 41 ni (.agg #[.int .i64 0, .int .i64 0, .slice none 0 0]) 3 40 Tryd.underlying22 hni hn0 hn1 hn2 rfl (by decide) v k cs rfl (HO1.out _ _) ⟨w1.heap.size, 0, none⟩ 1 1 [.int .i64 x.kind, .int .i64 x.lit, .slice A2 x.ins.length c2] rfl rfl (newThree (by simp)) threeNd ?qd1 ?qd2 ?qd3 ?_)
        case qd2 => omega
        case qd3 => simp; omega
        intro v4 w4 hown4 hgrow4 hnil4
        obtain ⟨g4, cap4, rfl⟩ : ∃ g cap, v4 = .slice (some ⟨g, 0, none⟩) (k + 1) cap := by
          rcases hown4.2 with ⟨_, e⟩ | ⟨g, cap, cur, e, _⟩
          · omega
          · exact ⟨g, cap, e⟩
        have hb4 := hob1.of_block (w' := w4) ((hgrow4.block _ (by simp; omega) (by intro e; have := HVL.out _ e.symm; omega)).trans (((World.grownBy_alloc _ _ none).block _ (by simp; omega) (by simp)).trans (Below.heap_setCell _ _ _ _ (by simp; omega))))
        have b4 := hb4.cell (i := 1) (by decide)
        have f4 := hb4.frozen 1
        simp at b4
        have hcs4 := HC1.out.step HTK.out HN1.out (by omega) (HCP.out.mono (by omega)) _ hgrow4 hown4
        have HC4 := Lib.hid hcs4
        clear hcs4 hb4 hown4 hgrow4 hnil4
        go_wp2
        go_roundw
        case rel => exact ⟨k + 1, _, _, by omega, by go_num, HC4.out⟩
        case measure => simp [intOf]; omega
    · obtain rfl : k = N.l.length := by omega
      have hc := hcs.cells
      rw [List.take_length] at hc
      obtain ⟨B, cb, rfl, hcn⟩ := cpN_mk hown hc
      have b0 := hob.cell (i := 0) (by decide)
      have b1 := hob.cell (i := 1) (by decide)
      simp at b0 b1
      have q0 : wr.rowIs (w.heap.size + 1) 24 2 (arrF #[.int .i64 0, .slice none 0 0]) := q.row0
      have r0 := q0.cell (i := 0) (Nat.lt_of_lt_of_le Nat.zero_lt_one (Nat.le_succ 1))
      have r1 := q0.cell (i := 1) (Nat.lt_succ_self 1)
      have g0 := q0.frozen 0
      have g1 := q0.frozen 1
      simp [arrF] at r0 r1
      have hrow : ∀ u v : Value, ((wr.setCell ⟨w.heap.size + 1, 0, none⟩ u).setCell ⟨w.heap.size + 1, 1, none⟩ v).rowIs (w.heap.size + 1) 24 2 (fun i => if i = 0 then u else v) := fun u v => ((q0.set 0 u).set 1 v).congr fun i hi => by
        have : i = 0 ∨ i = 1 := by omega
        rcases this with rfl | rfl <;> rfl
      have HROW := Lib.hid hrow
      have HCN : Hid (∀ u v : Value, CpN ((wr.setCell ⟨w.heap.size + 1, 0, none⟩ u).setCell ⟨w.heap.size + 1, 1, none⟩ v) w.heap.size B N.l) := Lib.hid fun u v => (hcn.kept fun b hb _ => by rw [Below.heap_setCell _ _ _ _ (by simp; omega), Below.heap_setCell _ _ _ _ (by simp; omega)]).mono (by omega)
      have HBL : Hid (∀ u v : Value, Below w.heap.size w ((wr.setCell ⟨w.heap.size + 1, 0, none⟩ u).setCell ⟨w.heap.size + 1, 1, none⟩ v)) := Lib.hid fun u v => (q.bl.setCell (by simp) _).setCell (by simp) _
      clear hcn hc q q0 hcs hown hob hrow
      go_wp2
      refine ret_row rfl (w.heap.size + 1) 24 2 _ rfl (HROW.out _ _) _ Tryd.underlying24 rfl size_net rfl ?_
      exact ⟨B, cb, rfl, HCN.out _ _, HBL.out _ _⟩
end Go.Proofs.YtemgfhdgpkmmaaaDoor
