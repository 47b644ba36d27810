import Derived.Test.YtoljkoifgnmbgaaGreatDoorUw
set_option linter.unusedSimpArgs false
set_option linter.unusedVariables false
open Go Go.RowKit Cs
namespace Go.Proofs.YtoljkoifgnmbgaaGreatDoor
def trunc (w : World) (D : Nat) : World := { w with heap := w.heap.extract 0 D }
theorem trunc_size (w : World) (D : Nat) (h : D ≤ w.heap.size) : (trunc w D).heap.size = D := by
 unfold trunc;simp;omega
theorem trunc_below (w : World) (D : Nat) (h : D ≤ w.heap.size) : Below D (trunc w D) w :=
 ⟨rfl, rfl, rfl, by rw [trunc_size w D h]; exact h, fun k hk => by
   unfold trunc;simp only [Array.getElem?_extract]
   rw [if_pos (by omega), Nat.zero_add]⟩
theorem lv_trunc {W : World} {D E : Nat} {g : Sg} {N : Nt} {n : Nat} {lo hi : List Pr} {tv : Value} {T : List Int} {k : Int} (h : SesAt W D E g N n lo hi tv T k) (hD : D ≤ W.heap.size) : Lv (trunc W D) E g N n lo hi tv T k W :=
 ⟨by rw [trunc_size W D hD]; exact h, by rw [trunc_size W D hD]; exact trunc_below W D hD⟩
theorem SpI.kind {w : World} {D E g cap n : Nat} {F : Nat → Value} (h : SpI w D E g cap n F) (k : Nat) (u : Value) : SpI (w.setCell ⟨g, k * 3, none⟩ u) D E g cap n (fun j => if j = k * 3 then u else F j) := by
 refine ⟨h.row.set _ u, h.lo, h.hi, h.le, fun i hi => ?_⟩;obtain ⟨A, m, c, e, h1, h2⟩ := h.ins i hi;refine ⟨A, m, c, ?_, h1, h2.set _ ⟨_, rfl⟩ _⟩;show (if i * 3 + 2 = k * 3 then _ else _) = _;rw [if_neg (by omega)];exact e
structure OwS (w w3 w5 w6 : World) (N : Nt) (B : Option Addr) (cb n gw gl gh cm ck v1 : Nat) (wr : World) : Prop where
 xb : wr.rowIs w3.heap.size 24 2 (arrF #[.int .i64 N.n, .slice B N.l.length cb])
 wb : wr.rowIs gw 30 2 (arrF #[.slice (some ⟨gl, 0, none⟩) (n + 1) cm, .slice (some ⟨gh, 0, none⟩) (n + 1) ck])
 p1 : ∃ L : List Pr, L.length = n + 1 ∧ PrR wr gl 60 (cm * 2) (n + 1) L
 p2 : ∃ L : List Pr, L.length = n + 1 ∧ PrR wr gh 60 (ck * 2) (n + 1) L
 sg : ∀ y, w5.heap.size ≤ y → y < w6.heap.size → wr.heap[y]? = w6.heap[y]?
 mg : ∀ y, v1 ≤ y → y < w3.heap.size → wr.heap[y]? = w3.heap[y]?
 bl : Below w.heap.size w wr
 sz : w6.heap.size ≤ wr.heap.size
structure OwP (w w3 w5 : World) (gw gl gh v1 : Nat) : Prop where
 l1 : w.heap.size ≤ gl
 l2 : w.heap.size ≤ gh
 h1 : gl < gw
 h2 : gh < gw
 ne : gl ≠ gh
 gv : gw < v1
 v3 : v1 ≤ w3.heap.size
 h5 : w3.heap.size < w5.heap.size
section
variable {w w3 w5 w6 wr : World} {N : Nt} {B : Option Addr} {cb n gw gl gh cm ck v1 : Nat}
theorem OwS.copy (h : OwS w w3 w5 w6 N B cb n gw gl gh cm ck v1 wr) (p : OwP w w3 w5 gw gl gh v1) {X : Nat} (hX : w3.heap.size + 1 ≤ X) (hX2 : X < w5.heap.size) (i : Nat) (v : Value) : OwS w w3 w5 w6 N B cb n gw gl gh cm ck v1 (wr.setCell ⟨X, i, none⟩ v) := by
 have h1 := p.h1;have h2 := p.h2;have h3 := p.gv;have h4 := p.v3;have h5 := p.l1;obtain ⟨L1, e1, q1⟩ := h.p1;obtain ⟨L2, e2, q2⟩ := h.p2
 exact ⟨h.xb.setOther (by show _ ≠ X; omega) _, h.wb.setOther (by show _ ≠ X; omega) _, ⟨L1, e1, q1.setOther (by show _ ≠ X; omega) _⟩, ⟨L2, e2, q2.setOther (by show _ ≠ X; omega) _⟩,
  fun y a b => (Below.heap_setCell _ _ _ _ (by show y ≠ X; omega)).trans (h.sg y a b), fun y a b => (Below.heap_setCell _ _ _ _ (by show y ≠ X; omega)).trans (h.mg y a b), h.bl.setCell (by show _ ≤ X; omega) _, by rw [size_setCell]; exact h.sz⟩
theorem OwS.low (h : OwS w w3 w5 w6 N B cb n gw gl gh cm ck v1 wr) (p : OwP w w3 w5 gw gl gh v1) (k : Nat) (hk : k < n + 1) : OwS w w3 w5 w6 N B cb n gw gl gh cm ck v1 ((wr.setCell ⟨gl, k * 2, none⟩ (.string ⟨#[]⟩)).setCell ⟨gl, k * 2 + 1, none⟩ (.string ⟨#[]⟩)) := by
 have h1 := p.h1;have h2 := p.h2;have h3 := p.gv;have h4 := p.v3;have h5 := p.h5;have h6 := p.ne;obtain ⟨L1, e1, q1⟩ := h.p1;obtain ⟨L2, e2, q2⟩ := h.p2;have hp := q1.set (0, 0) k hk e1;rw [natB_zero] at hp
 exact ⟨(h.xb.setOther (by show _ ≠ gl; omega) _).setOther (by show _ ≠ gl; omega) _, (h.wb.setOther (by show _ ≠ gl; omega) _).setOther (by show _ ≠ gl; omega) _, ⟨_, by rw [List.length_set]; exact e1, hp⟩, ⟨L2, e2, (q2.setOther (by show _ ≠ gl; omega) _).setOther (by show _ ≠ gl; omega) _⟩,
  fun y a b => ((Below.heap_setCell _ _ _ _ (by show y ≠ gl; omega)).trans (Below.heap_setCell _ _ _ _ (by show y ≠ gl; omega))).trans (h.sg y a b), fun y a b => ((Below.heap_setCell _ _ _ _ (by show y ≠ gl; omega)).trans (Below.heap_setCell _ _ _ _ (by show y ≠ gl; omega))).trans (h.mg y a b), (h.bl.setCell p.l1 _).setCell p.l1 _, by rw [size_setCell, size_setCell]; exact h.sz⟩
theorem OwS.high (h : OwS w w3 w5 w6 N B cb n gw gl gh cm ck v1 wr) (p : OwP w w3 w5 gw gl gh v1) (k : Nat) (hk : k < n + 1) : OwS w w3 w5 w6 N B cb n gw gl gh cm ck v1 ((wr.setCell ⟨gh, k * 2, none⟩ (.string ⟨#[]⟩)).setCell ⟨gh, k * 2 + 1, none⟩ (.string ⟨#[]⟩)) := by
 have h1 := p.h1;have h2 := p.h2;have h3 := p.gv;have h4 := p.v3;have h5 := p.h5;have h6 := p.ne;obtain ⟨L1, e1, q1⟩ := h.p1;obtain ⟨L2, e2, q2⟩ := h.p2;have hp := q2.set (0, 0) k hk e2;rw [natB_zero] at hp
 exact ⟨(h.xb.setOther (by show _ ≠ gh; omega) _).setOther (by show _ ≠ gh; omega) _, (h.wb.setOther (by show _ ≠ gh; omega) _).setOther (by show _ ≠ gh; omega) _, ⟨L1, e1, (q1.setOther (by show _ ≠ gh; omega) _).setOther (by show _ ≠ gh; omega) _⟩, ⟨_, by rw [List.length_set]; exact e2, hp⟩,
  fun y a b => ((Below.heap_setCell _ _ _ _ (by show y ≠ gh; omega)).trans (Below.heap_setCell _ _ _ _ (by show y ≠ gh; omega))).trans (h.sg y a b), fun y a b => ((Below.heap_setCell _ _ _ _ (by show y ≠ gh; omega)).trans (Below.heap_setCell _ _ _ _ (by show y ≠ gh; omega))).trans (h.mg y a b), (h.bl.setCell p.l2 _).setCell p.l2 _, by rw [size_setCell, size_setCell]; exact h.sz⟩
theorem OwS.cells (h : OwS w w3 w5 w6 N B cb n gw gl gh cm ck v1 wr) : wr.cell? ⟨w3.heap.size, 1, none⟩ = some (.slice B N.l.length cb) ∧ wr.cell? ⟨gw, 0, none⟩ = some (.slice (some ⟨gl, 0, none⟩) (n + 1) cm) ∧ wr.cell? ⟨gw, 1, none⟩ = some (.slice (some ⟨gh, 0, none⟩) (n + 1) ck) :=
 ⟨h.xb.cell (i := 1) (by decide), h.wb.cell (i := 0) (by decide), h.wb.cell (i := 1) (by decide)⟩
end
end Go.Proofs.YtoljkoifgnmbgaaGreatDoor
