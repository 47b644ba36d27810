/- Facts for the walk of ListWalks: a copy that is spoilt, the models in their order. -/
import Derived.Test.YtemgfhdgpkmmaaaDoorWa
import Derived.Test.YtemgfhdgpkmmaaaDoorIc
import Derived.Test.YtemgfhdgpkmmaaaDoorH4
set_option linter.unusedSimpArgs false
set_option linter.unusedVariables false
open Go Go.RowKit Cs
namespace Go.Proofs.YtemgfhdgpkmmaaaDoor
theorem WkLies.agree {w w' : World} {N : Nt} {D g gl q : Nat} {A : Option Addr} {c : Nat} {s : Wk} {k : Int} (h : WkLies w N D g gl q A c s k) (hw : ∀ b, D ≤ b → b < w.heap.size → w'.heap[b]? = w.heap[b]?) : WkLies w' N D g gl q A c s k :=
  ⟨h.row.of_block (hw g h.lo1.2.2 h.row.lt), h.net.agree (fun b h1 h2 => hw b h1 (Nat.lt_trans h2 h.row.lt)), ⟨h.ls.row.of_block (hw gl h.lo1.1 h.ls.row.lt), h.ls.sets.of_block (hw q h.lo1.2.1 h.ls.sets.lt)⟩, h.lo1, h.hi1⟩
theorem rowNe {w : World} {b b' : Nat} {t t' : TypeId} {n n' : Nat} {f f' : Nat → Value} (h : w.rowIs b t n f) (h' : w.rowIs b' t' n' f') (ht : t ≠ t') : b ≠ b' := by
  rintro rfl
  obtain ⟨c, e, _⟩ := h
  obtain ⟨c', e', _⟩ := h'
  rw [e] at e'
  injection e' with e'
  injection e' with _ e'
  exact ht e'
theorem CpN.nt {w w0 : World} {D B0 : Nat} {B A0 : Option Addr} {l : List Nd} (h : CpN w D B l) (h0 : NtAt w0 B0 A0 l) : NtAt w w.heap.size B l := fun hn => by
  obtain ⟨g, cap, F, e, hD, hr, hc, hf⟩ := h hn
  obtain ⟨_, _, _, _, hcs⟩ := h0 hn
  refine ⟨g, 0, e, hr.lt, fun i hi => ?_⟩
  obtain ⟨h1, h2, A, c, h3, h4⟩ := hf i hi
  obtain ⟨_, _, _, k1, k2, k3, k4⟩ := hcs i hi
  rw [Nat.zero_add]
  refine ⟨(hr.cell (by omega)).trans (by rw [h1]), (hr.cell (by omega)).trans (by rw [h2]), ⟨A, c, (hr.cell (by omega)).trans (by rw [h3]), fun hm => ?_⟩, k1, k2, k3, k4⟩
  obtain ⟨gi, ci, fi, e', _, hr', hc', hf'⟩ := h4 hm
  exact ⟨gi, 0, e', hr'.lt, fun j hj => by rw [Nat.zero_add, hr'.cell (by omega), hf' j hj]⟩
/-- The inputs that a spoilt node still names. -/
def SpA (w : World) (D E : Nat) (A : Option Addr) (m : Nat) : Prop := 0 < m → ∃ gi ci fi, A = some ⟨gi, 0, none⟩ ∧ D ≤ gi ∧ gi < E ∧ w.rowIs gi 3 ci fi ∧ m ≤ ci
/-- The nodes of a copy that is being spoilt. -/
structure SpI (w : World) (D E g cap n : Nat) (F : Nat → Value) : Prop where
  row : w.rowIs g 41 (cap * 3) F
  lo : D ≤ g
  hi : g < E
  le : n ≤ cap
  ins : ∀ i, i < n → ∃ A m c, F (i * 3 + 2) = .slice A m c ∧ m ≤ 1000000000000 ∧ SpA w D E A m
def SpN (w : World) (D E : Nat) (B : Option Addr) (n : Nat) : Prop := 0 < n → ∃ g cap F, B = some ⟨g, 0, none⟩ ∧ SpI w D E g cap n F
theorem SpA.set {w : World} {D E m : Nat} {A : Option Addr} (h : SpA w D E A m) (a : Addr) (ha : ∃ o, a = ⟨a.block, o, none⟩) (v : Value) : SpA (w.setCell a v) D E A m := fun hm => by
  obtain ⟨gi, ci, fi, e, h1, h2, h3, h4⟩ := h hm
  obtain ⟨o, ho⟩ := ha
  by_cases hb : gi = a.block
  · subst hb
    rw [ho]
    exact ⟨_, ci, _, e, h1, h2, h3.set o v, h4⟩
  · exact ⟨gi, ci, fi, e, h1, h2, h3.setOther hb v, h4⟩
theorem SpI.input {w : World} {D E g cap n X ci : Nat} {F f : Nat → Value} (h : SpI w D E g cap n F) (hX : w.rowIs X 3 ci f) (j : Nat) (v : Value) : SpI (w.setCell ⟨X, j, none⟩ v) D E g cap n F :=
  ⟨h.row.setOther (rowNe h.row hX (by decide)) v, h.lo, h.hi, h.le, fun i hi => (let ⟨A, m, c, e, h1, h2⟩ := h.ins i hi; ⟨A, m, c, e, h1, h2.set _ ⟨j, rfl⟩ v⟩)⟩
theorem SpI.wipe {w : World} {D E g cap n : Nat} {F : Nat → Value} (h : SpI w D E g cap n F) (k : Nat) (u v : Value) :
    SpI (((w.setCell ⟨g, k * 3, none⟩ u).setCell ⟨g, k * 3 + 1, none⟩ v).setCell ⟨g, k * 3 + 2, none⟩ (.slice none 0 0)) D E g cap n (fun j => if j = k * 3 + 2 then .slice none 0 0 else if j = k * 3 + 1 then v else if j = k * 3 then u else F j) := by
  refine ⟨((h.row.set _ u).set _ v).set _ _, h.lo, h.hi, h.le, fun i hi => ?_⟩
  by_cases hik : i = k
  · subst hik
    exact ⟨none, 0, 0, by simp, by omega, fun h => absurd h (by omega)⟩
  · obtain ⟨A, m, c, e, h1, h2⟩ := h.ins i hi
    refine ⟨A, m, c, ?_, h1, ((h2.set _ ⟨_, rfl⟩ _).set _ ⟨_, rfl⟩ _).set _ ⟨_, rfl⟩ _⟩
    show (if i * 3 + 2 = k * 3 + 2 then _ else _) = _
    rw [if_neg (by omega), if_neg (by omega), if_neg (by omega)]
    exact e
theorem SpN.agree {w w' : World} {D E n : Nat} {B : Option Addr} (h : SpN w D E B n) (hw : ∀ b, b < E → b < w.heap.size → w'.heap[b]? = w.heap[b]?) : SpN w' D E B n := fun hn => by
  obtain ⟨g, cap, F, e, h1, h2, h3, h4, h5⟩ := h hn
  refine ⟨g, cap, F, e, h1.of_block (hw g h3 h1.lt), h2, h3, h4, fun i hi => ?_⟩
  obtain ⟨A, m, c, k1, k2, k3⟩ := h5 i hi
  exact ⟨A, m, c, k1, k2, fun hm => (let ⟨gi, ci, fi, a1, a2, a3, a4, a5⟩ := k3 hm; ⟨gi, ci, fi, a1, a2, a3, a4.of_block (hw gi a3 a4.lt), a5⟩)⟩
theorem CpN.spoil {w : World} {D E : Nat} {B : Option Addr} {l : List Nd} (h : CpN w D B l) (hs : slim l = true) (hE : w.heap.size ≤ E) : SpN w D E B l.length := fun hn => by
  obtain ⟨g, cap, F, e, hD, hr, hc, hf⟩ := h hn
  refine ⟨g, cap, F, e, hr, hD, Nat.lt_of_lt_of_le hr.lt hE, hc, fun i hi => ?_⟩
  obtain ⟨_, _, A, c, h3, h4⟩ := hf i hi
  refine ⟨A, _, c, h3, slim_at hs hi, fun hm => ?_⟩
  obtain ⟨gi, ci, fi, e', h1, hr', hc', _⟩ := h4 hm
  exact ⟨gi, ci, fi, e', h1, Nat.lt_of_lt_of_le hr'.lt hE, hr', hc'⟩
/-- What lies in memory while the copy is spoilt. -/
structure SpS (w V : World) (N : Nt) (A B : Option Addr) (c cb D E g3 g gl q : Nat) (A' : Option Addr) (c' : Nat) (wr : World) : Prop where
  sp : SpN wr D E B N.l.length
  wk : WkLies wr N E g gl q A' c' ⟨0, false, false⟩ 0
  bag : Bag w V V.heap.size [(g3, 24, 2, #[.int .i64 N.n, .slice B N.l.length cb]), (w.heap.size, 24, 2, #[.int .i64 N.n, .slice A N.l.length c])] wr
  lo : V.heap.size ≤ D ∧ w.heap.size < D
section
variable {w V wr : World} {N : Nt} {A B A' : Option Addr} {c cb c' D E g3 g gl q X n : Nat} {f : Nat → Value} {t : TypeId}
theorem _root_.Cs.Bag.spo (h : Bag w V V.heap.size [(g3, 24, 2, #[.int .i64 N.n, .slice B N.l.length cb]), (w.heap.size, 24, 2, #[.int .i64 N.n, .slice A N.l.length c])] wr) (hlo : V.heap.size ≤ D ∧ w.heap.size < D) (hX : wr.rowIs X t n f) (ht : 24 ≠ t) (hD : D ≤ X) (j : Nat) (v : Value) :
    Bag w V V.heap.size [(g3, 24, 2, #[.int .i64 N.n, .slice B N.l.length cb]), (w.heap.size, 24, 2, #[.int .i64 N.n, .slice A N.l.length c])] (wr.setCell ⟨X, j, none⟩ v) :=
  h.other (Nat.le_trans hlo.1 hD) (fun r hr => by
    simp only [List.mem_cons, List.not_mem_nil, or_false] at hr
    rcases hr with rfl | rfl
    · exact rowNe h.row0 hX ht
    · show w.heap.size ≠ X
      omega) j v
theorem WkLies.spo {s : Wk} {k : Int} (h : WkLies wr N E g gl q A' c' s k) (hE : X < E) (j : Nat) (v : Value) : WkLies (wr.setCell ⟨X, j, none⟩ v) N E g gl q A' c' s k :=
  h.agree fun b hb _ => Below.heap_setCell _ _ _ _ (by show b ≠ X; omega)
end
end Go.Proofs.YtemgfhdgpkmmaaaDoor
namespace Cs
open Go.Proofs.YtemgfhdgpkmmaaaDoor
/-- From the k-th assignment on: no model, or the next one. -/
theorem mdl_walk (N : Nt) (n k j : Nat) (hk : (mdl N n k).length = j) : ∀ d, ((mdl N n (k + d)).length = j ∧ ∀ i, k ≤ i → i < k + d → evB N (asg i n) = false) ∨
    (j < (mdl N n (k + d)).length ∧ ∃ p, k ≤ p ∧ p < k + d ∧ evB N (asg p n) = true ∧ (∀ i, k ≤ i → i < p → evB N (asg i n) = false) ∧ (mdl N n (k + d)).getD j 0 = asg p n ∧ (mdl N n (p + 1)).length = j + 1)
  | 0 => .inl ⟨hk, fun i h1 h2 => by omega⟩
  | d + 1 => by
    have hs := mdl_succ N n (k + d)
    rw [show k + d + 1 = k + (d + 1) by omega] at hs
    rcases mdl_walk N n k j hk d with ⟨h1, h2⟩ | ⟨h1, p, h2, h3, h4, h5, h6, h7⟩
    · cases hb : evB N (asg (k + d) n)
      · rw [hb, if_neg (by decide)] at hs
        exact .inl ⟨by rw [hs]; exact h1, fun i a b => by
          rcases Nat.lt_or_ge i (k + d) with h | h
          · exact h2 i a h
          · obtain rfl : i = k + d := by omega
            exact hb⟩
      · rw [hb, if_pos rfl] at hs
        refine .inr ⟨by rw [hs, List.length_append, h1]; simp, k + d, by omega, by omega, hb, h2, ?_, ?_⟩
        · rw [hs, getD_snoc, h1, if_pos rfl]
        · rw [show k + d + 1 = k + (d + 1) by omega, hs, List.length_append, h1]; rfl
    · refine .inr ⟨?_, p, h2, by omega, h4, h5, ?_, h7⟩
      · rw [hs]; split
        · rw [List.length_append]; omega
        · exact h1
      · rw [hs]; split
        · rw [getD_snoc, if_neg (by omega), h6]
        · exact h6
theorem WkAt.far {N : Nt} {n k : Nat} {s : Wk} (h : WkAt N n k s) : ∀ d, (∀ i, k ≤ i → i < k + d → evB N (asg i n) = false) → WkAt N n (k + d) s
  | 0, _ => h
  | d + 1, hf => (h.far d (fun i a b => hf i a (by omega))).miss (hf (k + d) (by omega) (by omega))
/-- The walk has given j models. -/
def WkJ (N : Nt) (n j : Nat) (s : Wk) : Prop := IsSet s.last ∧ ∃ k, k ≤ 2 ^ n ∧ (mdl N n k).length = j ∧ WkAt N n k s
theorem WkJ.start (N : Nt) (n : Nat) : WkJ N n 0 ⟨0, false, false⟩ := ⟨isSet_zero, 0, Nat.zero_le _, rfl, WkAt.start N n⟩
theorem WkJ.next {N : Nt} (hv : vld N = true) (hd : dcmp N = true) {n j : Nat} {s : Wk} (hn : N.n = (n : Int)) (hn128 : n ≤ 10) (h : WkJ N n j s) (hj : j < (mdl N n (2 ^ n)).length) :
    ∃ s', s.next N = ⟨(mdl N n (2 ^ n)).getD j 0, true⟩ ∧ s.step N = s' ∧ WkJ N n (j + 1) s' := by
  obtain ⟨_, k, hk, hm, ha⟩ := h
  have hw := mdl_walk N n k j hm (2 ^ n - k)
  rw [show k + (2 ^ n - k) = 2 ^ n by omega] at hw
  rcases hw with ⟨h1, _⟩ | ⟨_, p, h2, h3, h4, h5, h6, h7⟩
  · omega
  · have ha2 := ha.far (p - k) (fun i a b => h5 i a (by omega))
    rw [show k + (p - k) = p by omega] at ha2
    obtain ⟨e1, e2⟩ := ha2.hit hv hd n hn h3 h4
    refine ⟨_, by rw [h6]; exact e1, e2, asg_isSet hn128, p + 1, h3, h7, WkAt.hitAt N n p⟩
/-- A walk that gives nothing more. -/
def WkF (N : Nt) (s : Wk) : Prop := IsSet s.last ∧ s.next N = ⟨0, false⟩ ∧ s.step N = ⟨0, true, true⟩
theorem WkF.dead (N : Nt) : WkF N ⟨0, true, true⟩ := ⟨isSet_zero, rfl, rfl⟩
theorem WkJ.fin {N : Nt} (hv : vld N = true) (hd : dcmp N = true) {n j : Nat} {s : Wk} (hn : N.n = (n : Int)) (h : WkJ N n j s) (hj : ¬ j < (mdl N n (2 ^ n)).length) : WkF N s := by
  obtain ⟨hs, k, hk, hm, ha⟩ := h
  have hw := mdl_walk N n k j hm (2 ^ n - k)
  rw [show k + (2 ^ n - k) = 2 ^ n by omega] at hw
  rcases hw with ⟨h1, h2⟩ | ⟨h1, _⟩
  · have ha2 := ha.far (2 ^ n - k) (fun i a b => h2 i a (by omega))
    rw [show k + (2 ^ n - k) = 2 ^ n by omega] at ha2
    exact ⟨hs, WkAt.stop hv hd n hn ha2⟩
  · exact absurd h1 hj
end Cs
