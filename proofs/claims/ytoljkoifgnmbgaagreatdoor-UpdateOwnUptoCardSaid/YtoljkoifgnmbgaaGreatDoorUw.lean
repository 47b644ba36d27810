import Derived.Test.YtoljkoifgnmbgaaGreatDoorUs
import Derived.Laws.AppendOwn
set_option linter.unusedSimpArgs false
set_option linter.unusedVariables false
open Go Go.RowKit Cs
namespace Go.Proofs.YtoljkoifgnmbgaaGreatDoor
theorem row3 (w : World) (x y z : Value) (t : TypeId) (g : Nat) (hg : w.heap.size = g) : (w.alloc (.cells #[x, y, z] t)).rowIs g t 3 fun i => if i = 0 then x else if i = 1 then y else z := by
 subst hg
 exact World.rowIs_alloc w #[x, y, z] t _ fun i hi => by
  have : i = 0 ∨ i = 1 ∨ i = 2 := by simp at hi; omega
  rcases this with rfl | rfl | rfl <;> rfl
def CpI (w : World) (D : Nat) (A : Option Addr) (xs : List Int) : Prop := 0 < xs.length → ∃ g cap f, A = some ⟨g, 0, none⟩ ∧ D ≤ g ∧ w.rowIs g 3 cap f ∧ xs.length ≤ cap ∧ ∀ i, i < xs.length → f i = intF xs i
theorem CpI.kept {w w' : World} {D : Nat} {A : Option Addr} {xs : List Int} (h : CpI w D A xs) (hw : ∀ b, D ≤ b → b < w.heap.size → (∃ c fr, w.heap[b]? = some (.cells c 3 fr)) → w'.heap[b]? = w.heap[b]?) : CpI w' D A xs := fun hn => by
 obtain ⟨g, cap, f, e, hD, hr, hc, hf⟩ := h hn;refine ⟨g, cap, f, e, hD, hr.of_block (hw g hD hr.lt ?_), hc, hf⟩;obtain ⟨c, hb, _, _⟩ := hr;exact ⟨c, _, hb⟩
def CpC (w : World) (D : Nat) (l : List Nd) (cs : List Value) : Prop := cs.length = l.length * 3 ∧ ∀ i (h : i < l.length), cs[i * 3]? = some (.int .i64 l[i].kind) ∧ cs[i * 3 + 1]? = some (.int .i64 l[i].lit) ∧ ∃ A c, cs[i * 3 + 2]? = some (.slice A l[i].ins.length c) ∧ CpI w D A l[i].ins
theorem CpC.kept {w w' : World} {D : Nat} {l : List Nd} {cs : List Value} (h : CpC w D l cs) (hw : ∀ b, D ≤ b → b < w.heap.size → (∃ c fr, w.heap[b]? = some (.cells c 3 fr)) → w'.heap[b]? = w.heap[b]?) : CpC w' D l cs :=
 ⟨h.1, fun i hi => (let ⟨h1, h2, A, c, h3, h4⟩ := h.2 i hi; ⟨h1, h2, A, c, h3, h4.kept hw⟩)⟩
theorem CpC.snoc {w : World} {D : Nat} {l : List Nd} {cs : List Value} {x : Nd} {A : Option Addr} {c : Nat} (h : CpC w D l cs) (hx : CpI w D A x.ins) : CpC w D (l ++ [x]) (cs ++ [.int .i64 x.kind, .int .i64 x.lit, .slice A x.ins.length c]) := by
 obtain ⟨h1, h2⟩ := h;refine ⟨by simp [h1]; omega, fun i hi => ?_⟩;rcases Nat.lt_or_ge i l.length with hl | hl
 ·obtain ⟨a1, a2, A1, c1, a3, a4⟩ := h2 i hl;have e : (l ++ [x])[i] = l[i] := List.getElem_append_left hl;rw [e]
  refine ⟨?_, ?_, A1, c1, ?_, a4⟩ <;> rw [List.getElem?_append_left (by omega)] <;> assumption
 ·have e : (l ++ [x])[i] = x := by
   simp at hi
   obtain rfl : i = l.length := by omega
   simp
  rw [e]
  have hi2 : i = l.length := by simp at hi; omega
  subst hi2
  refine ⟨?_, ?_, A, c, ?_, hx⟩ <;> rw [List.getElem?_append_right (by omega), h1]
  ·simp
  ·rw [show l.length * 3 + 1 - l.length * 3 = 1 by omega]; rfl
  ·rw [show l.length * 3 + 2 - l.length * 3 = 2 by omega]; rfl
theorem newThree {w : World} {a b c : Value} {t : TypeId} {g : Nat} (hg : w.heap.size = g) (j : Nat) (u : Value) (h : ([a, b, c] : List Value)[j]? = some u) : (w.alloc (.cells #[a, b, c] t)).cell? ((⟨g, 0, none⟩ : Addr).add j) = some u := by
 have hr := row3 w a b c t _ hg
 match j, h with
 | 0, h => simp at h; subst h; exact hr.cell (i := 0) (by decide)
 | 1, h => simp at h; subst h; exact hr.cell (i := 1) (by decide)
 | 2, h => simp at h; subst h; exact hr.cell (i := 2) (by decide)
theorem threeNd {k l : Int} {A : Option Addr} {n c : Nat} (u : Value) (h : u ∈ [Value.int .i64 k, .int .i64 l, .slice A n c]) : u.oneCell' = true := by
 simp at h; rcases h with rfl | rfl | rfl <;> rfl
theorem made2 (w : World) (cs : Array Value) (t t' : TypeId) (base : Nat) (hb : base ≤ w.heap.size + 1) : ((w.alloc (.cells cs t)).alloc (.cells #[] t')).ownsRow base t' 1 (.slice (some ⟨w.heap.size + 1, 0, none⟩) 0 0) 0 [] := by
 have h := World.ownsRow_made (w.alloc (.cells cs t)) (base := base) (e := t') (size := 1) #[] 0 (by simpa using hb) (Nat.zero_le _) rfl
 simpa using h
theorem cpI_mk {w : World} {base : Nat} {v : Value} {xs : List Int} (h : w.ownsRow base 3 1 v xs.length (xs.map (Value.int .i64))) : ∃ A c, v = .slice A xs.length c ∧ CpI w base A xs := by
 rcases Nat.eq_zero_or_pos xs.length with h0 | h0
 ·rcases h.2 with ⟨e, _⟩ | ⟨g, cap, cur, e, _⟩
  ·exact ⟨none, 0, by rw [e, h0], fun h' => absurd h' (by omega)⟩
  ·exact ⟨_, _, by rw [e], fun h' => absurd h' (by omega)⟩
 ·obtain ⟨g, cap, f, rfl, hg, hlt, hc, hr, hf⟩ := ownsRowIs h h0;refine ⟨_, _, rfl, fun _ => ⟨g, cap, f, rfl, hg, by simpa using hr, hc, fun i hi => ?_⟩⟩;have := hf i (by omega);simp [List.getElem?_eq_getElem hi] at this;rw [← this];simp [intF, List.getD, List.getElem?_eq_getElem hi]
theorem CpI.mono {w : World} {D D' : Nat} {A : Option Addr} {xs : List Int} (h : CpI w D A xs) (hD : D' ≤ D) : CpI w D' A xs := fun hn => (let ⟨g, cap, f, e, h1, h2⟩ := h hn; ⟨g, cap, f, e, Nat.le_trans hD h1, h2⟩)
structure CpS (w : World) (N : Nt) (R : List (Nat × TypeId × Nat × Array Value)) (k : Nat) (v : Value) (cs : List Value) (wr : World) : Prop where
 box : wr.rowIs (w.heap.size) 24 2 (fun i => if i = 0 then .int .i64 N.n else v)
 own : wr.ownsRow ((w.heap.size + 1)) 76 3 v k cs
 cells : CpC wr ((w.heap.size + 1)) (N.l.take k) cs
 bag : Bag w w w.heap.size R wr
 low : ∀ r ∈ R, r.1 < w.heap.size
theorem grownBag {w w0 wr w' : World} {D : Nat} {row : Option Nat} {R : List (Nat × TypeId × Nat × Array Value)} (h : Bag w w0 D R wr) (hg : wr.grownBy w' row) (hD : ∀ g, row = some g → D ≤ g ∧ ∀ r ∈ R, r.1 ≠ g) : Bag w w0 D R w' :=
 ⟨fun r hr => (h.rows r hr).of_block (hg.block _ (h.rows r hr).lt (by intro e; exact (hD _ e.symm).2 r hr rfl)), h.base.grown hg h.le (fun k e => (hD k e).1), h.bl.grown hg (Nat.le_trans h.wD h.le) (fun k e => Nat.le_trans h.wD (hD k e).1), Nat.le_trans h.le hg.size, h.wD⟩
theorem CpS.grown {w wr w' : World} {N : Nt} {R : List (Nat × TypeId × Nat × Array Value)} {k : Nat} {v : Value} {cs : List Value} (h : CpS w N R k v cs wr) {row : Option Nat} (hg : wr.grownBy w' row) (hr : ∀ g, row = some g → wr.heap.size ≤ g) : CpS w N R k v cs w' := by
 have hlt : ∀ b, b < wr.heap.size → w'.heap[b]? = wr.heap[b]? := fun b hb => hg.block b hb (by intro e; have := hr b e.symm; omega);have hl := h.box.lt;refine ⟨h.box.of_block (hlt _ h.box.lt), h.own.kept hg ?_, h.cells.kept (fun b _ hb _ => hlt b hb), grownBag h.bag hg (fun g e => ⟨by have := hr g e; have := h.bag.le; omega, fun r hr' => by have := h.low r hr'; have := hr g e; omega⟩), h.low⟩;cases hv : v.ownBlock with
 | none => exact .inl rfl
 | some b =>
   refine .inr ?_;cases row with
   | none => simp
   | some g =>
     intro e;injection e with e;have := h.own.lt b hv;have := hr g rfl;omega
theorem ownSet {w1 : World} {base X k : Nat} {e : TypeId} {v : Value} {cs : List Value} (h : w1.ownsRow base e 3 v k cs) (hv : v.ownBlock ≠ some X) (u : Value) (o : Obj) : ((w1.setCell ⟨X, 2, none⟩ u).alloc o).ownsRow base e 3 v k cs := by
 refine World.ownsRow.alloc ⟨h.1, ?_⟩ o;rcases h.2 with hn | ⟨g, cap, cur, rfl, hb, e, rest⟩
 ·exact .inl hn
 ·refine .inr ⟨g, cap, cur, rfl, hb, ?_, rest⟩;rw [Below.heap_setCell _ _ _ _ (by intro e2; simp at e2; exact hv (by simp [Value.ownBlock, e2]))];exact e
theorem CpS.stepM {w w1 w4 : World} {N : Nt} {R : List (Nat × TypeId × Nat × Array Value)} {k X c2 : Nat} {v v4 : Value} {cs : List Value} {x : Nd} {A2 : Option Addr}
  (h : CpS w N R k v cs w1) (hx : N.l.take (k + 1) = N.l.take k ++ [x]) (hX : ∀ c fr, w1.heap[X]? ≠ some (.cells c 3 fr)) (hlo : w.heap.size < X) (hcp : CpI w1 ((w.heap.size + 1)) A2 x.ins)
  (hbs : ∀ b, b ≠ X → b < w1.heap.size → some b ≠ v.ownBlock → w4.heap[b]? = w1.heap[b]?) (hq : Bag w w w.heap.size R w4)
  (ho : w4.ownsRow ((w.heap.size + 1)) 76 3 v4 (k + 1) (cs ++ [.int .i64 x.kind, .int .i64 x.lit, .slice A2 x.ins.length c2])) :
  CpS w N R (k + 1) v4 (cs ++ [.int .i64 x.kind, .int .i64 x.lit, .slice A2 x.ins.length c2]) (w4.setCell ⟨w.heap.size, 1, none⟩ v4) := by
 obtain ⟨h1, h2, h3, h4, h5⟩ := h
 have hint : ∀ b, (w.heap.size + 1) ≤ b → b < w1.heap.size → (∃ c fr, w1.heap[b]? = some (.cells c 3 fr)) → (w4.setCell ⟨w.heap.size, 1, none⟩ v4).heap[b]? = w1.heap[b]? := fun b hb hl ⟨c, fr, e⟩ => by
  rw [Below.heap_setCell _ _ _ _ (by simp; omega)];refine hbs b ?_ hl ?_
  ·rintro rfl;exact hX _ _ e
  ·intro e2;rcases h2.2 with ⟨rfl, _⟩ | ⟨g, cap, cur, rfl, _, e', _⟩
   ·cases e2
   ·simp [Value.ownBlock] at e2;subst e2;rw [e] at e';cases e'
 have hv : ∀ g, v.ownBlock = some g → (w.heap.size + 1) ≤ g := fun g e => (h2.lt g e).1;refine ⟨?_, ?_, ?_, ?_, h5⟩
 ·have hb4 : w4.rowIs (w.heap.size) 24 2 (fun i => if i = 0 then .int .i64 N.n else v) := h1.of_block (hbs _ (by omega) h1.lt (by intro e; have := hv _ e.symm; omega));refine (hb4.set 1 v4).congr fun i hi => ?_
  have : i = 0 ∨ i = 1 := by omega
  rcases this with rfl | rfl <;> rfl
 ·refine ⟨ho.1, ?_⟩;rcases ho.2 with hn | ⟨g, cap, cur, rfl, hb, e, rest⟩
  ·exact .inl hn
  ·refine .inr ⟨g, cap, cur, rfl, hb, ?_, rest⟩;rw [Below.heap_setCell _ _ _ _ (by simp; omega)];exact e
 ·rw [hx]
  exact (h3.kept hint).snoc (fun hn => by
   obtain ⟨g, cap, f, e, hD, hr, hc, hf⟩ := hcp hn;refine ⟨g, cap, f, e, hD, hr.of_block (hint g hD hr.lt ?_), hc, hf⟩;obtain ⟨c, hb, _, _⟩ := hr
   exact ⟨c, _, hb⟩)
 ·exact hq.other (by omega) (fun r hr => by have := h5 r hr; omega) 1 v4
theorem CpS.step {w w1 w4 : World} {N : Nt} {R : List (Nat × TypeId × Nat × Array Value)} {k X c2 : Nat} {v v4 : Value} {cs : List Value} {x : Nd} {A2 : Option Addr} {F : Nat → Value} {o : Obj}
  (h : CpS w N R k v cs w1) (hx : N.l.take (k + 1) = N.l.take k ++ [x]) (hX : w1.rowIs X 76 3 F) (hlo : w.heap.size < X) (hcp : CpI w1 ((w.heap.size + 1)) A2 x.ins) (u : Value)
  (hg : ((w1.setCell ⟨X, 2, none⟩ u).alloc o).grownBy w4 v.ownBlock)
  (ho : w4.ownsRow ((w.heap.size + 1)) 76 3 v4 (k + 1) (cs ++ [.int .i64 x.kind, .int .i64 x.lit, .slice A2 x.ins.length c2])) :
  CpS w N R (k + 1) v4 (cs ++ [.int .i64 x.kind, .int .i64 x.lit, .slice A2 x.ins.length c2]) (w4.setCell ⟨w.heap.size, 1, none⟩ v4) := by
 have hv : ∀ g, v.ownBlock = some g → (w.heap.size + 1) ≤ g := fun g e => (h.own.lt g e).1
 refine h.stepM hx ?_ hlo hcp (fun b hb hl hne => by
  rw [hg.block b (by simp; omega) hne, (World.grownBy_alloc _ o none).block b (by simp; omega) (by simp), Below.heap_setCell _ _ _ _ hb]) (grownBag ((h.bag.other (X := X) (by omega) (fun r hr => by have := h.low r hr; omega) 2 u).alloc o) hg (fun g e => ⟨by have := hv g e; omega, fun r hr => by have := h.low r hr; have := hv g e; omega⟩)) ho
 intro c fr e;obtain ⟨c', e', _⟩ := hX;rw [e] at e';cases e'
theorem CpS.step0 {w w1 w4 : World} {N : Nt} {R : List (Nat × TypeId × Nat × Array Value)} {k c2 : Nat} {v v4 : Value} {cs : List Value} {x : Nd} {A2 : Option Addr} {o1 o2 o3 : Obj}
  (h : CpS w N R k v cs w1) (hx : N.l.take (k + 1) = N.l.take k ++ [x]) (hi : x.ins = [])
  (hg : (((w1.alloc o1).alloc o2).alloc o3).grownBy w4 v.ownBlock)
  (ho : w4.ownsRow ((w.heap.size + 1)) 76 3 v4 (k + 1) (cs ++ [.int .i64 x.kind, .int .i64 x.lit, .slice A2 x.ins.length c2])) :
  CpS w N R (k + 1) v4 (cs ++ [.int .i64 x.kind, .int .i64 x.lit, .slice A2 x.ins.length c2]) (w4.setCell ⟨w.heap.size, 1, none⟩ v4) := by
 have hv : ∀ g, v.ownBlock = some g → (w.heap.size + 1) ≤ g := fun g e => (h.own.lt g e).1;have hl := h.box.lt;refine h.stepM (X := w1.heap.size) hx ?_ hl (fun hn => absurd hn (by simp [hi])) (fun b hb hl hne => ?_) (grownBag (((h.bag.alloc o1).alloc o2).alloc o3) hg (fun g e => ⟨by have := hv g e; omega, fun r hr => by have := h.low r hr; have := hv g e; omega⟩)) ho
 ·intro c fr e;rw [Array.getElem?_eq_none (zqn _)] at e;cases e
 ·rw [hg.block b (by simp; omega) hne, (World.grownBy_alloc _ o3 none).block b (by simp; omega) (by simp), (World.grownBy_alloc _ o2 none).block b (by simp; omega) (by simp), (World.grownBy_alloc _ o1 none).block b hl (by simp)]
def CpN (w : World) (D : Nat) (B : Option Addr) (l : List Nd) : Prop := 0 < l.length → ∃ g cap F, B = some ⟨g, 0, none⟩ ∧ D ≤ g ∧ w.rowIs g 76 (cap * 3) F ∧ l.length ≤ cap ∧ ∀ i (h : i < l.length), F (i * 3) = .int .i64 l[i].kind ∧ F (i * 3 + 1) = .int .i64 l[i].lit ∧ ∃ A c, F (i * 3 + 2) = .slice A l[i].ins.length c ∧ CpI w D A l[i].ins
theorem cpN_mk {w : World} {D : Nat} {v : Value} {l : List Nd} {cs : List Value} (h : w.ownsRow D 76 3 v l.length cs) (hc : CpC w D l cs) : ∃ B cb, v = .slice B l.length cb ∧ CpN w D B l := by
 rcases Nat.eq_zero_or_pos l.length with h0 | h0
 ·rcases h.2 with ⟨e, _⟩ | ⟨g, cap, cur, e, _⟩
  ·exact ⟨none, 0, by rw [e, h0], fun h' => absurd h' (by omega)⟩
  ·exact ⟨_, _, by rw [e], fun h' => absurd h' (by omega)⟩
 ·obtain ⟨g, cap, f, rfl, hg, hlt, hcp, hr, hf⟩ := ownsRowIs h h0;refine ⟨_, _, rfl, fun _ => ⟨g, cap, f, rfl, hg, hr, hcp, fun i hi => ?_⟩⟩;obtain ⟨h1, h2, A, c, h3, h4⟩ := hc.2 i hi;rw [hf _ (by omega)] at h1 h2 h3;injection h1 with h1;injection h2 with h2;injection h3 with h3;exact ⟨h1, h2, A, c, h3, h4⟩
theorem rowNeT {w : World} {b b' : Nat} {t t' : TypeId} {n n' : Nat} {f f' : Nat → Value} (h : w.rowIs b t n f) (h' : w.rowIs b' t' n' f') (ht : t ≠ t') : b ≠ b' := by
 rintro rfl;obtain ⟨c, e, _⟩ := h;obtain ⟨c', e', _⟩ := h';rw [e] at e';injection e' with e';injection e' with _ e';exact ht e'
theorem CpN.nt {w w0 : World} {D B0 : Nat} {B A0 : Option Addr} {l : List Nd} (h : CpN w D B l) (h0 : NtAt w0 B0 A0 l) : NtAt w w.heap.size B l := fun hn => by
 obtain ⟨g, cap, F, e, hD, hr, hc, hf⟩ := h hn;obtain ⟨_, _, _, _, hcs⟩ := h0 hn;refine ⟨g, 0, e, hr.lt, fun i hi => ?_⟩;obtain ⟨h1, h2, A, c, h3, h4⟩ := hf i hi;obtain ⟨_, _, _, k1, k2, k3, k4⟩ := hcs i hi;rw [Nat.zero_add];refine ⟨(hr.cell (by omega)).trans (by rw [h1]), (hr.cell (by omega)).trans (by rw [h2]), ⟨A, c, (hr.cell (by omega)).trans (by rw [h3]), fun hm => ?_⟩, k1, k2, k3, k4⟩;obtain ⟨gi, ci, fi, e', _, hr', hc', hf'⟩ := h4 hm;exact ⟨gi, 0, e', hr'.lt, fun j hj => by rw [Nat.zero_add, hr'.cell (by omega), hf' j hj]⟩
def SpA (w : World) (D E : Nat) (A : Option Addr) (m : Nat) : Prop := 0 < m → ∃ gi ci fi, A = some ⟨gi, 0, none⟩ ∧ D ≤ gi ∧ gi < E ∧ w.rowIs gi 3 ci fi ∧ m ≤ ci
structure SpI (w : World) (D E g cap n : Nat) (F : Nat → Value) : Prop where
 row : w.rowIs g 76 (cap * 3) F
 lo : D ≤ g
 hi : g < E
 le : n ≤ cap
 ins : ∀ i, i < n → ∃ A m c, F (i * 3 + 2) = .slice A m c ∧ m ≤ 1000000000000 ∧ SpA w D E A m
def SpN (w : World) (D E : Nat) (B : Option Addr) (n : Nat) : Prop := 0 < n → ∃ g cap F, B = some ⟨g, 0, none⟩ ∧ SpI w D E g cap n F
theorem SpA.set {w : World} {D E m : Nat} {A : Option Addr} (h : SpA w D E A m) (a : Addr) (ha : ∃ o, a = ⟨a.block, o, none⟩) (v : Value) : SpA (w.setCell a v) D E A m := fun hm => by
 obtain ⟨gi, ci, fi, e, h1, h2, h3, h4⟩ := h hm;obtain ⟨o, ho⟩ := ha;by_cases hb : gi = a.block
 ·subst hb;rw [ho];exact ⟨_, ci, _, e, h1, h2, h3.set o v, h4⟩
 ·exact ⟨gi, ci, fi, e, h1, h2, h3.setOther hb v, h4⟩
theorem SpI.input {w : World} {D E g cap n X ci : Nat} {F f : Nat → Value} (h : SpI w D E g cap n F) (hX : w.rowIs X 3 ci f) (j : Nat) (v : Value) : SpI (w.setCell ⟨X, j, none⟩ v) D E g cap n F :=
 ⟨h.row.setOther (rowNeT h.row hX (by decide)) v, h.lo, h.hi, h.le, fun i hi => (let ⟨A, m, c, e, h1, h2⟩ := h.ins i hi; ⟨A, m, c, e, h1, h2.set _ ⟨j, rfl⟩ v⟩)⟩
theorem SpN.agree {w w' : World} {D E n : Nat} {B : Option Addr} (h : SpN w D E B n) (hw : ∀ b, b < E → b < w.heap.size → w'.heap[b]? = w.heap[b]?) : SpN w' D E B n := fun hn => by
 obtain ⟨g, cap, F, e, h1, h2, h3, h4, h5⟩ := h hn;refine ⟨g, cap, F, e, h1.of_block (hw g h3 h1.lt), h2, h3, h4, fun i hi => ?_⟩;obtain ⟨A, m, c, k1, k2, k3⟩ := h5 i hi;exact ⟨A, m, c, k1, k2, fun hm => (let ⟨gi, ci, fi, a1, a2, a3, a4, a5⟩ := k3 hm; ⟨gi, ci, fi, a1, a2, a3, a4.of_block (hw gi a3 a4.lt), a5⟩)⟩
theorem CpN.spoil {w : World} {D E : Nat} {B : Option Addr} {l : List Nd} (h : CpN w D B l) (hs : ∀ k (hk : k < l.length), l[k].ins.length ≤ 1000000) (hE : w.heap.size ≤ E) : SpN w D E B l.length := fun hn => by
 obtain ⟨g, cap, F, e, hD, hr, hc, hf⟩ := h hn;refine ⟨g, cap, F, e, hr, hD, Nat.lt_of_lt_of_le hr.lt hE, hc, fun i hi => ?_⟩;obtain ⟨_, _, A, c, h3, h4⟩ := hf i hi;refine ⟨A, _, c, h3, by have := hs i hi; omega, fun hm => ?_⟩;obtain ⟨gi, ci, fi, e', h1, hr', hc', _⟩ := h4 hm;exact ⟨gi, ci, fi, e', h1, Nat.lt_of_lt_of_le hr'.lt hE, hr', hc'⟩
end Go.Proofs.YtoljkoifgnmbgaaGreatDoor
