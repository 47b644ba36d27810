/- Nets that lie between two bounds; the walks of slices.Clone. The walk of list.New. The walks of Next and Steps. -/
import Derived.Test.YtemgfhdgpkmmaaaDoorL4
import Derived.Lib.SliceRun
import Derived.Test.YtemgfhdgpkmmaaaDoorL9
import Derived.Test.YtemgfhdgpkmmaaaDoorGa
import Derived.Deep.CutRange
/-! Nets that lie between two bounds; the walks of slices.Clone. -/
section
set_option linter.unusedSimpArgs false
set_option linter.unusedVariables false
open Go Go.RowKit Cs
namespace Cs
/-- The slice at A holds n cells f 0 .. f (n - 1), in a block from D on, below B. -/
def RdK (w : World) (D B : Nat) (A : Option Addr) (n : Nat) (f : Nat → Value) : Prop :=
  0 < n → ∃ b o, A = some ⟨b, o, none⟩ ∧ D ≤ b ∧ b < B ∧ ∀ i, i < n → w.cell? ⟨b, o + i, none⟩ = some (f i)
structure NdK (w : World) (D B b o : Nat) (x : Nd) : Prop where
  kind : w.cell? ⟨b, o, none⟩ = some (.int .i64 x.kind)
  lit : w.cell? ⟨b, o + 1, none⟩ = some (.int .i64 x.lit)
  ins : ∃ A c, w.cell? ⟨b, o + 2, none⟩ = some (.slice A x.ins.length c) ∧ RdK w D B A x.ins.length (intF x.ins)
  rk : r64 x.kind
  rl : r64 x.lit
  ri : ∀ i ∈ x.ins, r64 i
  len : x.ins.length ≤ 140737488355328
/-- The nodes L lie in the slice at A, all in blocks from D on, below B. -/
def NtK (w : World) (D B : Nat) (A : Option Addr) (L : List Nd) : Prop :=
  0 < L.length → ∃ b o, A = some ⟨b, o, none⟩ ∧ D ≤ b ∧ b < B ∧ ∀ i (h : i < L.length), NdK w D B b (o + i * 3) L[i]
section
variable {w w' : World} {D B B' b o n : Nat} {x : Nd} {A : Option Addr} {L : List Nd} {f : Nat → Value}
theorem cellEq {a : Addr} (h : w'.heap[a.block]? = w.heap[a.block]?) : w'.cell? a = w.cell? a := by
  unfold World.cell?; rw [h]
theorem RdK.agree (h : RdK w D B A n f) (hw : ∀ b, D ≤ b → b < B → w'.heap[b]? = w.heap[b]?) : RdK w' D B A n f := fun hn => by
  obtain ⟨b, o, e, hD, hB, hc⟩ := h hn
  exact ⟨b, o, e, hD, hB, fun i hi => (cellEq (hw b hD hB)).trans (hc i hi)⟩
theorem RdK.more (h : RdK w D B A n f) (hB : B ≤ B') : RdK w D B' A n f := fun hn => by
  obtain ⟨b, o, e, hD, hb, hc⟩ := h hn
  exact ⟨b, o, e, hD, by omega, hc⟩
theorem RdK.rd (h : RdK w D B A n f) : Rd w B A n f := fun hn => by
  obtain ⟨b, o, e, hD, hb, hc⟩ := h hn
  exact ⟨b, o, e, hb, hc⟩
theorem NdK.agree (h : NdK w D B b o x) (hw : ∀ b, D ≤ b → b < B → w'.heap[b]? = w.heap[b]?) (hD : D ≤ b) (hB : b < B) : NdK w' D B b o x :=
  ⟨(cellEq (hw b hD hB)).trans h.kind, (cellEq (hw b hD hB)).trans h.lit, (let ⟨A, c, h1, h2⟩ := h.ins; ⟨A, c, (cellEq (hw b hD hB)).trans h1, h2.agree hw⟩), h.rk, h.rl, h.ri, h.len⟩
theorem NdK.more (h : NdK w D B b o x) (hB : B ≤ B') : NdK w D B' b o x :=
  ⟨h.kind, h.lit, (let ⟨A, c, h1, h2⟩ := h.ins; ⟨A, c, h1, h2.more hB⟩), h.rk, h.rl, h.ri, h.len⟩
theorem NdK.nd (h : NdK w D B b o x) : NdAt w B b o x :=
  ⟨h.kind, h.lit, (let ⟨A, c, h1, h2⟩ := h.ins; ⟨A, c, h1, h2.rd⟩), h.rk, h.rl, h.ri, h.len⟩
theorem NtK.agree (h : NtK w D B A L) (hw : ∀ b, D ≤ b → b < B → w'.heap[b]? = w.heap[b]?) : NtK w' D B A L := fun hn => by
  obtain ⟨b, o, e, hD, hB, hc⟩ := h hn
  exact ⟨b, o, e, hD, hB, fun i hi => (hc i hi).agree hw hD hB⟩
theorem NtK.more (h : NtK w D B A L) (hB : B ≤ B') : NtK w D B' A L := fun hn => by
  obtain ⟨b, o, e, hD, hb, hc⟩ := h hn
  exact ⟨b, o, e, hD, by omega, fun i hi => (hc i hi).more hB⟩
theorem NtK.nt (h : NtK w D B A L) : NtAt w B A L := fun hn => by
  obtain ⟨b, o, e, hD, hb, hc⟩ := h hn
  exact ⟨b, o, e, hb, fun i hi => (hc i hi).nd⟩
theorem NtK.below (h : NtK w D B A L) (hb : Below B w w') : NtK w' D B A L := h.agree fun b _ hB => hb.block b hB
theorem RdK.below (h : RdK w D B A n f) (hb : Below B w w') : RdK w' D B A n f := h.agree fun b _ hB => hb.block b hB
/-- An own row, as a row of cells with what it holds. -/
theorem ownsRowIs {base : Nat} {e : TypeId} {size : Nat} {v : Value} {xs : List Value} (h : w.ownsRow base e size v n xs) (hn : 0 < n) :
    ∃ g cap f, v = .slice (some ⟨g, 0, none⟩) n cap ∧ base ≤ g ∧ g < w.heap.size ∧ n ≤ cap ∧ w.rowIs g e (cap * size) f ∧ ∀ i, i < n * size → xs[i]? = some (f i) := by
  obtain ⟨h1, h2⟩ := h
  rcases h2 with ⟨_, h0⟩ | ⟨g, cap, cur, rfl, hb, hg, hc, _, hs, ht⟩
  · omega
  · have hlt : g < w.heap.size := by
      rcases Nat.lt_or_ge g w.heap.size with h' | h'
      · exact h'
      · rw [Array.getElem?_eq_none h'] at hg; cases hg
    refine ⟨g, cap, fun i => cur.getD i undef, rfl, hb, hlt, hc, ⟨cur, hg, hs, fun i hi => ?_⟩, fun i hi => ?_⟩
    · show cur[i]? = some (cur.getD i undef)
      rw [Array.getD_eq_getD_getElem?, Array.getElem?_eq_getElem (by omega)]; rfl
    · have hle : n * size ≤ cap * size := Nat.mul_le_mul_right _ hc
      rw [← ht, List.getElem?_take, if_pos hi]
      show cur.toList[i]? = some (cur.getD i undef)
      rw [Array.getD_eq_getD_getElem?]
      rw [Array.getElem?_toList, Array.getElem?_eq_getElem (by omega)]; rfl
end
/-- No node has more than 40 inputs. -/
def slim (l : List Nd) : Bool := l.all fun x => decide (x.ins.length ≤ 40)
def lightB (N : Nt) (m : Nat) : Bool := slim N.l && decide (N.l.length ≤ m)
theorem slim_take {l : List Nd} {k : Nat} (h : k < l.length) : slim (l.take (k + 1)) = (slim (l.take k) && decide (l[k].ins.length ≤ 40)) := by
  unfold slim
  rw [List.take_succ_eq_append_getElem h, List.all_append]
  simp
theorem slim_not {l : List Nd} {k : Nat} (h : k < l.length) (h2 : ¬ l[k].ins.length ≤ 40) : slim l = false := by
  cases hs : slim l
  · rfl
  · unfold slim at hs
    rw [List.all_eq_true] at hs
    have := hs l[k] (List.getElem_mem h)
    simp only [decide_eq_true_eq] at this
    exact absurd this h2
end Cs
namespace Go.Proofs.YtemgfhdgpkmmaaaDoor
theorem info_node : (Tryd.prog.info? 41).map (fun i => (i.zero, i.size, i.bytes)) = some (some (.agg #[.int .i64 0, .int .i64 0, .slice none 0 0]), 3, 40) := by kernel_rfl
theorem info_int' : (Tryd.prog.info? 3).map (fun i => (i.zero, i.size, i.bytes)) = some (some (.int .i64 0), 1, 8) := by kernel_rfl
/-- What a clone is: its own row. -/
def ClnI (w : World) (xs : List Int) (e : Ending) (w' : World) : Prop := ∃ A c, e = .returned (.slice A xs.length c) ∧ RdK w' w.heap.size w'.heap.size A xs.length (intF xs) ∧ Below w.heap.size w w'
def ClnN (w : World) (n : Nat) (f : Nat → Value) (e : Ending) (w' : World) : Prop := ∃ A c, e = .returned (.slice A n c) ∧ (0 < n → ∃ g F, A = some ⟨g, 0, none⟩ ∧ w.heap.size ≤ g ∧ n ≤ c ∧ w'.rowIs g 41 (c * 3) F ∧ ∀ i, i < n * 3 → F i = f i) ∧ Below w.heap.size w w'
theorem clnI_mk (w : World) (xs : List Int) (v : Value) (w' : World) (h : w'.ownsRow w.heap.size 3 1 v xs.length (xs.map (Value.int .i64))) (hn : v = .slice none 0 0 → False) (hb : Below w.heap.size w w') : ClnI w xs (.returned v) w' := by
  rcases Nat.eq_zero_or_pos xs.length with h0 | h0
  · rcases h.2 with ⟨e, _⟩ | ⟨g, cap, cur, e, _⟩
    · exact (hn e).elim
    · exact ⟨_, _, by rw [e], fun h' => absurd h' (by omega), hb⟩
  · obtain ⟨g, cap, f, rfl, hg, hlt, hc, hr, hf⟩ := ownsRowIs h h0
    refine ⟨_, _, rfl, fun _ => ⟨g, 0, rfl, hg, hlt, fun i hi => ?_⟩, hb⟩
    rw [Nat.zero_add, hr.cell (by omega)]
    have := hf i (by omega)
    rw [← this]
    simp [intF, List.getD, List.getElem?_eq_getElem hi]
theorem clnN_mk (w : World) (n : Nat) (f : Nat → Value) (v : Value) (w' : World) (h : w'.ownsRow w.heap.size 41 3 v n ((List.range (n * 3)).map f)) (hn : v = .slice none 0 0 → False) (hb : Below w.heap.size w w') : ClnN w n f (.returned v) w' := by
  rcases Nat.eq_zero_or_pos n with h0 | h0
  · rcases h.2 with ⟨e, _⟩ | ⟨g, cap, cur, e, _⟩
    · exact (hn e).elim
    · exact ⟨_, _, by rw [e], fun h' => absurd h' (by omega), hb⟩
  · obtain ⟨g, cap, F, rfl, hg, hlt, hc, hr, hf⟩ := ownsRowIs h h0
    refine ⟨_, _, rfl, fun _ => ⟨g, F, rfl, hg, hc, hr, fun i hi => ?_⟩, hb⟩
    have := hf i hi
    have e : ((List.range (n * 3)).map f)[i]? = some (f i) := by simp [hi]
    rw [e] at this
    exact (Option.some.inj this).symm
set_option maxRecDepth 100000 in
set_option maxHeartbeats 1000000 in
theorem cloneInts_any (w : World) (A : Option Addr) (c : Nat) (xs : List Int) (hlen : xs.length ≤ 1000000000000) (hA : Rd w w.heap.size A xs.length (intF xs)) :
    Calls Tryd.prog 58 #[.slice A xs.length c] w (ClnI w xs) := by
  obtain ⟨i0, hi, hz0, hz1, hz2⟩ := info_parts info_int'
  have q22 : ∀ (w : World) (a : Option Addr) (n c n' c' : Nat), (binOp .eql 39 (.slice a n c) (.slice none n' c')).run Tryd.prog w = .ok (.bool a.isNone) w := fun w a n c n' c' => Lib.run_eql_slice_nil w _ _ a n c n' c' Tryd.underlying39
  cases A with
  | none =>
    have h0 : xs.length = 0 := by
      rcases Nat.eq_zero_or_pos xs.length with h | h
      · exact h
      · obtain ⟨b, o, e, _⟩ := hA h; cases e
    obtain rfl : xs = [] := List.eq_nil_of_length_eq_zero h0
    clear h0 hA hlen
    go_enter Tryd.func58, Tryd.ntmps58
    go_wp2
    go_ret
    exact ⟨none, 0, rfl, fun h => absurd h (by simp), Below.refl _ _⟩
  | some a =>
    have HA := Lib.hid hA
    clear hA
    go_enter Tryd.func58, Tryd.ntmps58
    go_wp2_with (at_builtin; refine wpList_append_own _ rfl _ _ 39 rfl w.heap.size 3 i0 (.int .i64 0) 1 8 Tryd.underlying39 hi hz0 hz1 hz2 rfl (by decide) _ _ _ rfl (World.ownsRow_made w #[] 0 (Nat.le_refl _) (Nat.zero_le _) rfl) a xs.length c (xs.map (Value.int .i64)) rfl ?qc1 ?qc2 ?qc3 ?qc4 ?qc5 ?qc6 ?_)
    case qc1 => simp
    case qc2 =>
      intro j u hj
      have hjn : j < xs.length := by
        have := (List.getElem?_eq_some_iff.1 hj).1
        simpa using this
      obtain ⟨b, o, e, hB, hc⟩ := HA.out (by omega)
      obtain rfl : a = ⟨b, o, none⟩ := by injection e
      rw [Addr.add_lit]
      refine Lib.cell?_alloc_some _ ?_
      rw [hc j hjn]
      have e : (xs.map (Value.int .i64))[j]? = some (intF xs j) := by simp [intF, List.getD, List.getElem?_eq_getElem hjn]
      rw [e] at hj
      exact hj
    case qc3 => intro u hu; obtain ⟨x, _, rfl⟩ := List.mem_map.1 hu; rfl
    case qc4 => unfold maxLen; omega
    case qc5 => omega
    case qc6 => simp
    intro v' w1 hown hgrow hnil
    go_wp2
    go_ret
    exact clnI_mk w xs v' w1 (by simpa using hown) hnil (((Below.refl _ w).alloc (Nat.le_refl _) _).grown hgrow (by simp) (by intro k hk; simp [Value.ownBlock] at hk; omega))
set_option maxRecDepth 100000 in
set_option maxHeartbeats 1000000 in
theorem cloneNodes_any (w : World) (A : Option Addr) (c : Nat) (n : Nat) (f : Nat → Value) (hlen : n ≤ 1000000000000) (h1 : ∀ i, i < n * 3 → (f i).oneCell' = true) (hA : Rd w w.heap.size A (n * 3) f) :
    Calls Tryd.prog 57 #[.slice A n c] w (ClnN w n f) := by
  obtain ⟨i0, hi, hz0, hz1, hz2⟩ := info_parts info_node
  have q22 : ∀ (w : World) (a : Option Addr) (n c n' c' : Nat), (binOp .eql 22 (.slice a n c) (.slice none n' c')).run Tryd.prog w = .ok (.bool a.isNone) w := fun w a n c n' c' => Lib.run_eql_slice_nil w _ _ a n c n' c' Tryd.underlying22
  cases A with
  | none =>
    obtain rfl : n = 0 := by
      rcases Nat.eq_zero_or_pos n with h | h
      · exact h
      · obtain ⟨b, o, e, _⟩ := hA (by omega); cases e
    clear hA hlen h1
    go_enter Tryd.func57, Tryd.ntmps57
    go_wp2
    go_ret
    exact ⟨none, 0, rfl, fun h => absurd h (by omega), Below.refl _ _⟩
  | some a =>
    have HA := Lib.hid hA
    clear hA
    go_enter Tryd.func57, Tryd.ntmps57
    go_wp2_with (at_builtin; refine wpList_append_own _ rfl _ _ 22 rfl w.heap.size 41 i0 (.agg #[.int .i64 0, .int .i64 0, .slice none 0 0]) 3 40 Tryd.underlying22 hi hz0 hz1 hz2 rfl (by decide) _ _ _ rfl (World.ownsRow_made w #[] 0 (Nat.le_refl _) (Nat.zero_le _) rfl) a n c ((List.range (n * 3)).map f) rfl ?qc1 ?qc2 ?qc3 ?qc4 ?qc5 ?qc6 ?_)
    case qc1 => simp
    case qc2 =>
      intro j u hj
      have hjn : j < n * 3 := by
        have := (List.getElem?_eq_some_iff.1 hj).1
        simpa using this
      obtain ⟨b, o, e, hB, hc⟩ := HA.out (by omega)
      obtain rfl : a = ⟨b, o, none⟩ := by injection e
      rw [Addr.add_lit]
      refine Lib.cell?_alloc_some _ ?_
      rw [hc j hjn]
      have e : ((List.range (n * 3)).map f)[j]? = some (f j) := by simp [hjn]
      rw [e] at hj
      exact hj
    case qc3 => intro u hu; obtain ⟨x, hx, rfl⟩ := List.mem_map.1 hu; exact h1 x (by simpa using hx)
    case qc4 => unfold maxLen; omega
    case qc5 => omega
    case qc6 => simp
    intro v' w1 hown hgrow hnil
    go_wp2
    go_ret
    exact clnN_mk w n f v' w1 (by simpa using hown) hnil (((Below.refl _ w).alloc (Nat.le_refl _) _).grown hgrow (by simp) (by intro k hk; simp [Value.ownBlock] at hk; omega))
end Go.Proofs.YtemgfhdgpkmmaaaDoor
end
/-! The walk of list.New. -/
section
set_option linter.unusedSimpArgs false
set_option linter.unusedVariables false
open Go Go.RowKit Cs
namespace Go.Proofs.YtemgfhdgpkmmaaaDoor
/-- The cells of a walk. -/
def wkF (gl : Nat) (s : Wk) (k : Int) (i : Nat) : Value :=
  if i = 0 then .pointer (some ⟨gl, 0, none⟩) else if i = 1 then .int .u64 (lo s.last : Int) else if i = 2 then .int .u64 (hi s.last : Int) else if i = 3 then .bool s.begun else if i = 4 then .bool s.over else .int .i64 k
/-- A walk lies at block g, its net and lister in blocks from D on, below g. -/
structure WkLies (w : World) (N : Nt) (D g gl q : Nat) (A : Option Addr) (c : Nat) (s : Wk) (k : Int) : Prop where
  row : w.rowIs g 67 6 (wkF gl s k)
  net : NtK w D g A N.l
  ls : LsAt w N A c gl q
  lo1 : D ≤ gl ∧ D ≤ q ∧ D ≤ g
  hi1 : gl < g ∧ q < g
def NewOk (w : World) (N : Nt) (e : Ending) (w' : World) : Prop := ∃ g gl q A c, e = .returned (.tuple #[.pointer (some ⟨g, 0, none⟩), .int .i64 0]) ∧ WkLies w' N w.heap.size g gl q A c ⟨0, false, false⟩ 0 ∧ Below w.heap.size w w'
def NewP (w : World) (N : Nt) (e : Ending) (w' : World) : Prop := (lerr N 0 = 0 ∧ NewOk w N e w') ∨ (lerr N 0 ≠ 0 ∧ e = .returned (.tuple #[.pointer none, .int .i64 (lerr N 0)]) ∧ Below w.heap.size w w')
/-- The cells of a net's nodes, read as they lie. -/
def cellF (w : World) (A : Option Addr) (i : Nat) : Value := match A with | some ⟨b, o, none⟩ => (w.cell? ⟨b, o + i, none⟩).getD undef | _ => undef
/-- Of a kept net, the inputs of the nodes before the k-th are new. -/
structure NdHalf (W w : World) (D g : Nat) (F : Nat → Value) (x : Nd) (i k : Nat) : Prop where
  kind : F (i * 3) = .int .i64 x.kind
  lit : F (i * 3 + 1) = .int .i64 x.lit
  ins : ∃ A c, F (i * 3 + 2) = .slice A x.ins.length c ∧ (i < k → RdK W (g + 1) W.heap.size A x.ins.length (intF x.ins)) ∧ (k ≤ i → Rd w D A x.ins.length (intF x.ins))
structure KpSt (w wr : World) (N : Nt) (A' : Option Addr) (c' g4 k : Nat) : Prop where
  box : wr.rowIs g4 24 2 (ntF N A' c')
  nodes : 0 < N.l.length → ∃ g F, A' = some ⟨g, 0, none⟩ ∧ w.heap.size ≤ g ∧ g ≠ g4 ∧ N.l.length ≤ c' ∧ wr.rowIs g 41 (c' * 3) F ∧ ∀ i (h : i < N.l.length), NdHalf wr w w.heap.size g F N.l[i] i k
  bl : Below w.heap.size w wr
theorem cellF_half {w W : World} {N : Nt} {A : Option Addr} {g : Nat} (hN : NtAt w w.heap.size A N.l) (F : Nat → Value) (hF : ∀ i, i < N.l.length * 3 → F i = cellF w A i) (i : Nat) (h : i < N.l.length) : NdHalf W w w.heap.size g F N.l[i] i 0 := by
  obtain ⟨b, o, rfl, hB, hc⟩ := hN (by omega)
  obtain ⟨h1, h2, ⟨A1, c1, h3, h4⟩, _, _, _, _⟩ := hc i h
  refine ⟨?_, ?_, A1, c1, ?_, fun h => absurd h (by omega), fun _ => h4⟩
  · rw [hF _ (by omega)]; show (w.cell? ⟨b, o + i * 3, none⟩).getD undef = _; rw [h1]; rfl
  · rw [hF _ (by omega)]; show (w.cell? ⟨b, o + (i * 3 + 1), none⟩).getD undef = _; rw [show o + (i * 3 + 1) = o + i * 3 + 1 by omega, h2]; rfl
  · rw [hF _ (by omega)]; show (w.cell? ⟨b, o + (i * 3 + 2), none⟩).getD undef = _; rw [show o + (i * 3 + 2) = o + i * 3 + 2 by omega, h3]; rfl
theorem cellF_rd {w : World} {N : Nt} {A : Option Addr} (hN : NtAt w w.heap.size A N.l) : Rd w w.heap.size A (N.l.length * 3) (cellF w A) ∧ ∀ i, i < N.l.length * 3 → (cellF w A i).oneCell' = true := by
  have key : 0 < N.l.length → ∃ b o, A = some ⟨b, o, none⟩ ∧ b < w.heap.size ∧ ∀ i, i < N.l.length * 3 → ∃ v, w.cell? ⟨b, o + i, none⟩ = some v ∧ v.oneCell' = true := fun h0 => by
    obtain ⟨b, o, rfl, hB, hc⟩ := hN h0
    refine ⟨b, o, rfl, hB, fun i hi => ?_⟩
    have hd : i / 3 < N.l.length := by omega
    obtain ⟨h1, h2, ⟨A1, c1, h3, h4⟩, _, _, _, _⟩ := hc (i / 3) hd
    have hm : i % 3 = 0 ∨ i % 3 = 1 ∨ i % 3 = 2 := by omega
    rcases hm with hm | hm | hm
    · exact ⟨_, by rw [show o + i = o + i / 3 * 3 by omega]; exact h1, rfl⟩
    · exact ⟨_, by rw [show o + i = o + i / 3 * 3 + 1 by omega]; exact h2, rfl⟩
    · exact ⟨_, by rw [show o + i = o + i / 3 * 3 + 2 by omega]; exact h3, rfl⟩
  constructor
  · intro h
    obtain ⟨b, o, rfl, hB, hc⟩ := key (by omega)
    refine ⟨b, o, rfl, hB, fun i hi => ?_⟩
    obtain ⟨v, hv, _⟩ := hc i hi
    show _ = some ((w.cell? ⟨b, o + i, none⟩).getD undef)
    rw [hv]; rfl
  · intro i hi
    obtain ⟨b, o, rfl, hB, hc⟩ := key (by omega)
    obtain ⟨v, hv, h1⟩ := hc i hi
    show ((w.cell? ⟨b, o + i, none⟩).getD undef).oneCell' = true
    rw [hv]; exact h1
theorem _root_.Cs.RdK.less {w : World} {D D' B : Nat} {A : Option Addr} {n : Nat} {f : Nat → Value} (h : RdK w D B A n f) (hD : D' ≤ D) : RdK w D' B A n f := fun hn => by
  obtain ⟨b, o, e, hb, hB, hc⟩ := h hn
  exact ⟨b, o, e, by omega, hB, hc⟩
theorem pairSet2 {w : World} {g : Nat} {t : TypeId} {f : Nat → Value} {N : Nt} {A : Option Addr} {c : Nat} (h : w.rowIs g t 2 f) : ((w.setCell ⟨g, 0, none⟩ (.int .i64 N.n)).setCell ⟨g, 1, none⟩ (.slice A N.l.length c)).rowIs g t 2 (ntF N A c) :=
  ((h.set 0 _).set 1 _).congr fun i hi => by
    have : i = 0 ∨ i = 1 := by omega
    rcases this with rfl | rfl <;> rfl
theorem slim_at {l : List Nd} (h : slim l = true) {k : Nat} (hk : k < l.length) : l[k].ins.length ≤ 1000000000000 := by
  unfold slim at h
  rw [List.all_eq_true] at h
  have := h l[k] (List.getElem_mem hk)
  simp only [decide_eq_true_eq] at this
  omega
theorem KpSt.net {w wr : World} {N : Nt} {A A' : Option Addr} {c' g4 : Nat} (h : KpSt w wr N A' c' g4 N.l.length) (hN : NtAt w w.heap.size A N.l) : NtK wr w.heap.size wr.heap.size A' N.l := fun hn => by
  obtain ⟨g, F, rfl, hg, _, hc, hr, hnd⟩ := h.nodes hn
  obtain ⟨b0, o0, _, _, hcs⟩ := hN hn
  refine ⟨g, 0, rfl, hg, hr.lt, fun i hi => ?_⟩
  obtain ⟨h1, h2, A1, c1, h3, h4, _⟩ := hnd i hi
  obtain ⟨_, _, _, k1, k2, k3, k4⟩ := hcs i hi
  refine ⟨?_, ?_, ⟨A1, c1, ?_, (h4 hi).less (by omega)⟩, k1, k2, k3, k4⟩
  · rw [Nat.zero_add, hr.cell (by omega), h1]
  · rw [Nat.zero_add, hr.cell (by omega), h2]
  · rw [Nat.zero_add, hr.cell (by omega), h3]
theorem KpSt.next {w wr w5 : World} {N : Nt} {c' g4 k g : Nat} {F : Nat → Value} {A2 : Option Addr} {c2 : Nat} (hk : k < N.l.length) (h : KpSt w wr N (some ⟨g, 0, none⟩) c' g4 k) (hg4 : w.heap.size ≤ g4) (hg : w.heap.size ≤ g) (hne : g ≠ g4) (hc : N.l.length ≤ c')
    (hr : wr.rowIs g 41 (c' * 3) F) (hnd : ∀ i (h : i < N.l.length), NdHalf wr w w.heap.size g F N.l[i] i k) (hb : Below wr.heap.size wr w5) (hrd : RdK w5 wr.heap.size w5.heap.size A2 N.l[k].ins.length (intF N.l[k].ins)) :
    KpSt w (w5.setCell ⟨g, k * 3 + 2, none⟩ (.slice A2 N.l[k].ins.length c2)) N (some ⟨g, 0, none⟩) c' g4 (k + 1) := by
  have hlt := hr.lt
  have hz := hb.size
  have hag : ∀ b, g + 1 ≤ b → (w5.setCell ⟨g, k * 3 + 2, none⟩ (.slice A2 N.l[k].ins.length c2)).heap[b]? = w5.heap[b]? := fun b hb' => Below.heap_setCell w5 ⟨g, k * 3 + 2, none⟩ _ b (by intro e; simp at e; omega)
  refine ⟨(rowBelow h.box hb).setOther (Ne.symm hne) _, fun _ => ⟨g, fun j => if j = k * 3 + 2 then .slice A2 N.l[k].ins.length c2 else F j, rfl, hg, hne, hc, ((rowBelow hr hb).set (k * 3 + 2) _).congr fun i _ => rfl, fun i hi => ?_⟩, (Cs.Below.trans' h.bl hb h.bl.size).setCell hg _⟩
  obtain ⟨h1, h2, A1, c1, h3, h4, h5⟩ := hnd i hi
  by_cases hik : i = k
  · subst hik
    refine ⟨?_, ?_, A2, c2, ?_, fun _ => ?_, fun hh => absurd hh (by omega)⟩
    · show (if i * 3 = i * 3 + 2 then _ else _) = _
      rw [if_neg (by omega)]; exact h1
    · show (if i * 3 + 1 = i * 3 + 2 then _ else _) = _
      rw [if_neg (by omega)]; exact h2
    · show (if i * 3 + 2 = i * 3 + 2 then _ else _) = _
      rw [if_pos rfl]
    · rw [size_setCell]
      exact (hrd.less (by omega)).agree fun b hb1 _ => hag b hb1
  · refine ⟨?_, ?_, A1, c1, ?_, fun hh => ?_, fun hh => h5 (by omega)⟩
    · show (if i * 3 = k * 3 + 2 then _ else _) = _
      rw [if_neg (by omega)]; exact h1
    · show (if i * 3 + 1 = k * 3 + 2 then _ else _) = _
      rw [if_neg (by omega)]; exact h2
    · show (if i * 3 + 2 = k * 3 + 2 then _ else _) = _
      rw [if_neg (by omega)]; exact h3
    · rw [size_setCell]
      exact (((h4 (by omega)).below hb).more hz).agree fun b hb1 _ => hag b hb1
theorem wkNew {w wr w6 : World} {N : Nt} {gl q : Nat} {A' : Option Addr} {c' : Nat} (hbl : Below w.heap.size w wr) (hgl : wr.heap.size ≤ gl) (hq : wr.heap.size ≤ q) (hls : LsAt w6 N A' c' gl q) (hb6 : Below wr.heap.size wr w6) (hnk : NtK wr w.heap.size wr.heap.size A' N.l) :
    WkLies (w6.alloc (.cells #[.pointer (some ⟨gl, 0, none⟩), .int .u64 0, .int .u64 0, .bool false, .bool false, .int .i64 0] 67)) N w.heap.size w6.heap.size gl q A' c' ⟨0, false, false⟩ 0 := by
  have h1 := hbl.size
  have h2 := hb6.size
  have hb7 : Below w6.heap.size w6 (w6.alloc (.cells #[.pointer (some ⟨gl, 0, none⟩), .int .u64 0, .int .u64 0, .bool false, .bool false, .int .i64 0] 67)) := (Below.refl _ _).alloc (Nat.le_refl _) _
  refine ⟨?_, ((hnk.below hb6).more h2).below hb7, hls.below hb7, ⟨by omega, by omega, by omega⟩, hls.row.lt, hls.sets.lt⟩
  refine World.rowIs_alloc w6 _ 67 _ fun i hi => ?_
  have hi' : i < 6 := hi
  have : i = 0 ∨ i = 1 ∨ i = 2 ∨ i = 3 ∨ i = 4 ∨ i = 5 := by omega
  rcases this with rfl | rfl | rfl | rfl | rfl | rfl <;> rfl
set_option maxRecDepth 100000 in
set_option maxHeartbeats 1000000 in
theorem new_any (w : World) (N : Nt) (A : Option Addr) (c : Nat) (hlen : N.l.length ≤ 1000000) (hsl : slim N.l = true) (hN : NtAt w w.heap.size A N.l) :
    Calls Tryd.prog 28 #[ntV N A c] w (NewP w N) := by
  have hcl : ∀ W, Below w.heap.size w W → Calls Tryd.prog 57 #[.slice A N.l.length c] W (ClnN W N.l.length (cellF w A)) := fun W hb => cloneNodes_any W A c N.l.length _ (by omega) (cellF_rd hN).2 (((cellF_rd hN).1.below hb).more hb.size)
  have HCL := Lib.hid hcl
  have hbx := ntNew w N A c 24 _ rfl
  have hbl : Below w.heap.size w (w.alloc (.cells #[.int .i64 N.n, .slice A N.l.length c] 24)) := (Below.refl _ _).alloc (Nat.le_refl _) _
  clear hcl
  go_enter Tryd.func28, Tryd.ntmps28
  go_wp2_with fail
  have hbl1 : Below w.heap.size w (w.alloc (.cells #[.int .i64 N.n, .slice A N.l.length c] 24)).drew := belowDrewN hbl 1
  have hbl2 : Below w.heap.size w ((w.alloc (.cells #[.int .i64 N.n, .slice A N.l.length c] 24)).alloc (.cells #[.int .i64 0, .slice none 0 0] 24)).drew := belowDrewN (hbl.alloc hbl.size _) 1
  go_cut [4] from 8 to 13 (fun p wx => ∃ g4 A' c', p = .pointer (some ⟨g4, 0, none⟩) ∧ w.heap.size ≤ g4 ∧ wx.rowIs g4 24 2 (ntF N A' c') ∧ (0 < N.l.length → ∃ g F, A' = some ⟨g, 0, none⟩ ∧ w.heap.size ≤ g ∧ g ≠ g4 ∧ N.l.length ≤ c' ∧ wx.rowIs g 41 (c' * 3) F ∧ ∀ i, i < N.l.length * 3 → F i = cellF w A i) ∧ Below w.heap.size w wx)
  case first =>
    have q1 := hbx.drew
    obtain ⟨c1, c2⟩ := ntCells q1
    go_region_held3 (fun w' => w'.cell? ⟨w.heap.size, 0, none⟩ = some (.int .i64 N.n) ∧ w'.cell? ⟨w.heap.size, 1, none⟩ = some (.slice A N.l.length c))
      (first | exact ⟨c1, c2⟩ | go_keep)
      (first
        | (go_simp
           go_at_call 57
           (with_reducible first | refine (HCL.out _ hbl1).mono ?_)
           rintro e w5 ⟨A', c', rfl, hcl, hb5⟩
           have q5 := rowBelow q1 hb5
           have hbl5 := Cs.Below.trans' hbl1 hb5 hbl1.size
           obtain ⟨c1, c2⟩ := ntCells q5)
        | (go_simp
           go_at_call 57
           (with_reducible first | refine (HCL.out _ hbl2).mono ?_)
           rintro e w5 ⟨A', c', rfl, hcl, hb5⟩
           have q5 := rowBelow (hbx.alloc _).drew hb5
           have q6 := rowBelow (pairNew (w.alloc (.cells #[.int .i64 N.n, .slice A N.l.length c] 24)) (.int .i64 0) (.slice none 0 0) 24 (w.heap.size + 1) (by simp)).drew hb5
           have c3 := q6.cell (i := 0) (by decide)
           have c4 := q6.cell (i := 1) (by decide)
           have c5 := q6.frozen 0
           have c6 := q6.frozen 1
           have hbl5 := Cs.Below.trans' hbl2 hb5 hbl2.size
           obtain ⟨c1, c2⟩ := ntCells q5))
    all_goals
      try go_wp2
      go_meet
      case rel =>
        first
          | (refine ⟨w5.heap.size, A', c', rfl, by have := hbl5.size; omega, ntNew _ N A' c' _ _ rfl, fun h0 => ?_, hbl5.alloc hbl5.size _⟩
             obtain ⟨g, F, rfl, hg, hc, hr, hF⟩ := hcl h0
             refine ⟨g, F, rfl, ?_, Nat.ne_of_lt hr.lt, hc, hr.alloc _, hF⟩
             have := hbl1.size
             omega)
          | (have hz5 := hb5.size
             have hz1 := hbl5.size
             simp at hz5
             refine ⟨w.heap.size + 1, A', c', rfl, by omega, ?_, fun h0 => ?_, (hbl5.setCell (by simp) _).setCell (by simp) _⟩
             · exact pairSet2 q6
             · obtain ⟨g, F, rfl, hg, hc, hr, hF⟩ := hcl h0
               simp at hg
               refine ⟨g, F, rfl, by omega, by omega, hc, (hr.setOther (by simp; omega) _).setOther (by simp; omega) _, hF⟩)
  case rest =>
    obtain ⟨g4, A', c', rfl, hg4, hbox, hnodes, hbl⟩ := hcut
    have hkp : KpSt w _ N A' c' g4 0 := ⟨hbox, fun h0 => (let ⟨g, F, e, h1, h2, h3, h4, h5⟩ := hnodes h0; ⟨g, F, e, h1, h2, h3, h4, fun i hi => cellF_half hN F h5 i hi⟩), hbl⟩
    obtain ⟨c1, c2⟩ := ntCells hbox
    clear hbox hnodes hbl hbx hbl1 hbl2 HCL
    go_wp2
    go_loopw [17] (fun t wr => ∃ k : Nat, k ≤ N.l.length ∧ t = .int .i64 k ∧ KpSt w wr N A' c' g4 k) (fun t _ => N.l.length - (intOf t).toNat)
    case atStart => exact ⟨0, by omega, rfl, hkp⟩
    case round =>
      clear hkp c1 c2
      obtain ⟨k, hk, rfl, hkp⟩ := hrel
      obtain ⟨c1, c2⟩ := ntCells hkp.box
      by_cases hlt : k < N.l.length
      · obtain ⟨g, F, rfl, hg, hne, hcc, hr, hnd⟩ := hkp.nodes (by omega)
        obtain ⟨n1, n2, A1, cA, n3, _, n4⟩ := hnd k hlt
        have n5 := n4 (Nat.le_refl _)
        have hc3 := hr.cell (i := k * 3 + 2) (by omega)
        rw [n3] at hc3
        have hf3 := hr.frozen (k * 3 + 2)
        have hnx := fun w5 A2 c2 hb hrd => KpSt.next (w5 := w5) (A2 := A2) (c2 := c2) hlt hkp hg4 hg hne hcc hr hnd hb hrd
        have hcl : ∀ W, Below wr.heap.size wr W → Calls Tryd.prog 58 #[.slice A1 N.l[k].ins.length cA] W (ClnI W N.l[k].ins) := fun W hb => cloneInts_any W A1 cA _ (slim_at hsl hlt) ((n5.below (hkp.bl.trans (hb.mono hkp.bl.size))).more (Nat.le_trans hkp.bl.size hb.size))
        obtain ⟨xs, hxs⟩ : ∃ xs, N.l[k].ins = xs := ⟨_, rfl⟩
        rw [hxs] at hc3
        simp only [hxs] at hcl hnx
        have HCL := Lib.hid hcl
        have HNX := Lib.hid hnx
        have hbd := hkp.bl
        have hrl := hr.lt
        have hrb := hkp.box.lt
        clear hnd n1 n2 n3 n4 n5 hxs hcl hnx hkp
        have hbd1 : Below wr.heap.size wr wr.drew := belowDrewN (Below.refl _ _) 1
        go_wp2_with fail
        go_region_law (
          go_simp
          go_at_call 58
          (with_reducible refine (HCL.out _ hbd1).mono ?_)
          rintro e w5 ⟨A2, c2', rfl, hrd, hb5⟩
          have hc5 : w5.cell? ⟨g, k * 3 + 2, none⟩ = some (.slice A1 xs.length cA) := below_cell hb5 hrl hc3
          have hf5 := (rowBelow hr.drew hb5).frozen (k * 3 + 2)
          have cb5 := below_cell hb5 hrb c1
          have cc5 := below_cell hb5 hrb c2)
        all_goals
          try go_wp2
          go_roundw
          case rel => exact ⟨k + 1, by omega, by go_num, HNX.out w5 A2 c2' (Cs.Below.trans' hbd1 hb5 hbd1.size) hrd⟩
          case measure => simp [intOf]; omega
      · obtain rfl : k = N.l.length := by omega
        have hnk := hkp.net hN
        have hbl := hkp.bl
        have hnt : NtAt wr wr.heap.size A' N.l := hnk.nt
        clear hkp
        by_cases he : lerr N 0 = 0
        · have hnl := newLister_fine wr N A' c' 0 (by omega) hnt isSet_zero he
          have HNL : Hid (Calls Tryd.prog 37 #[ntV N A' c', .agg #[.int .u64 0, .int .u64 0]] wr fun e w' => ∃ g q, e = .returned (.tuple #[.pointer (some ⟨g, 0, none⟩), .int .i64 0]) ∧ wr.heap.size ≤ g ∧ wr.heap.size ≤ q ∧ LsAt w' N A' c' g q ∧ Below wr.heap.size wr w') := Lib.hid hnl
          have HE := Lib.hid he
          clear hnl he
          go_wp2_with fail
          refine HNL.out.mono ?_
          rintro e w6 ⟨gl, q, rfl, hgl, hq, hls, hb6⟩
          go_wp2
          go_ret2
          exact .inl ⟨HE.out, w6.heap.size, gl, q, A', c', rfl, wkNew hbl hgl hq hls hb6 hnk, (Cs.Below.trans' hbl hb6 hbl.size).alloc (Nat.le_trans hbl.size hb6.size) _⟩
        · have hnl := newLister_err wr N A' c' 0 (by omega) hnt isSet_zero he
          obtain ⟨E, hE⟩ : ∃ E, lerr N 0 = E := ⟨_, rfl⟩
          rw [hE] at hnl
          have HNL : Hid (Calls Tryd.prog 37 #[ntV N A' c', .agg #[.int .u64 0, .int .u64 0]] wr fun e w' => e = .returned (.tuple #[.pointer none, .int .i64 E]) ∧ Below wr.heap.size wr w') := Lib.hid hnl
          have HE := Lib.hid he
          have HEE := Lib.hid hE
          have hb1 : (E != 0) = true := bne_iff_ne.2 (by rw [← hE]; exact he)
          clear hnl he hE
          go_wp2_with fail
          refine HNL.out.mono ?_
          rintro e w6 ⟨rfl, hb6⟩
          go_wp2
          go_ret2
          exact .inr ⟨HE.out, by rw [HEE.out]; try rfl, Cs.Below.trans' hbl hb6 hbl.size⟩
end Go.Proofs.YtemgfhdgpkmmaaaDoor
end
/-! The walks of Next and Steps. -/
section
set_option linter.unusedSimpArgs false
set_option linter.unusedVariables false
open Go Go.RowKit Cs
namespace Go.Proofs.YtemgfhdgpkmmaaaDoor
/-- How many nodes are visited. -/
def stepN (N : Nt) (s : Wk) (k : Int) : Int := if s.over then k else if (s.next N).ok then (if s.begun then 2 * (N.l.length : Int) else (N.l.length : Int)) else 0
/-- While Next runs: the walk's row (with any cells), its net, the result's cells. -/
structure NxR (w0 : World) (N : Nt) (D g gl q : Nat) (A : Option Addr) (c : Nat) (f : Nat → Value) (w : World) : Prop where
  row : w.rowIs g 67 6 f
  net : NtK w D g A N.l
  ls : LsAt w N A c gl q
  r : w.rowIs w0.heap.size 27 2 (setF 0)
  lo1 : D ≤ gl ∧ D ≤ q ∧ D ≤ g
  hi1 : gl < g ∧ q < g ∧ g < w0.heap.size
  grown : w0.grownBy w (some g)
section
variable {w0 w w' : World} {N : Nt} {D g gl q : Nat} {A : Option Addr} {c : Nat} {f : Nat → Value}
theorem NxR.below (h : NxR w0 N D g gl q A c f w) (hb : Below w.heap.size w w') : NxR w0 N D g gl q A c f w' :=
  ⟨rowBelow h.row hb, h.net.below (hb.mono (Nat.le_of_lt h.row.lt)), h.ls.below hb, rowBelow h.r hb, h.lo1, h.hi1, only_below h.grown hb⟩
theorem NxR.drew (h : NxR w0 N D g gl q A c f w) : NxR w0 N D g gl q A c f w.drew := h.below (belowDrewN (Below.refl _ _) 1)
theorem NxR.alloc (h : NxR w0 N D g gl q A c f w) (o : Obj) : NxR w0 N D g gl q A c f (w.alloc o) := h.below ((Below.refl _ _).alloc (Nat.le_refl _) _)
theorem NxR.set (h : NxR w0 N D g gl q A c f w) (i : Nat) (v : Value) : NxR w0 N D g gl q A c (fun j => if j = i then v else f j) (w.setCell ⟨g, i, none⟩ v) :=
  ⟨h.row.set i v, h.net.below ((Below.refl g w).setCell (Nat.le_refl g) _), ⟨h.ls.row.setOther (Nat.ne_of_lt h.hi1.1) _, h.ls.sets.setOther (Nat.ne_of_lt h.hi1.2.1) _⟩, h.r.setOther (Nat.ne_of_gt h.hi1.2.2) _, h.lo1, h.hi1, only_setCell h.grown (.inl rfl) _⟩
theorem NxR.congr (h : NxR w0 N D g gl q A c f w) {f' : Nat → Value} (e : ∀ i, i < 6 → f i = f' i) : NxR w0 N D g gl q A c f' w := ⟨h.row.congr e, h.net, h.ls, h.r, h.lo1, h.hi1, h.grown⟩
theorem NxR.cells (h : NxR w0 N D g gl q A c f w) : w.cell? ⟨g, 0, none⟩ = some (f 0) ∧ w.cell? ⟨g, 1, none⟩ = some (f 1) ∧ w.cell? ⟨g, 2, none⟩ = some (f 2) ∧ w.cell? ⟨g, 3, none⟩ = some (f 3) ∧ w.cell? ⟨g, 4, none⟩ = some (f 4) ∧ w.cell? ⟨g, 5, none⟩ = some (f 5) :=
  ⟨h.row.cell (by decide), h.row.cell (by decide), h.row.cell (by decide), h.row.cell (by decide), h.row.cell (by decide), h.row.cell (by decide)⟩
theorem NxR.frz (h : NxR w0 N D g gl q A c f w) : w.frozen? ⟨g, 1, none⟩ = false ∧ w.frozen? ⟨g, 2, none⟩ = false ∧ w.frozen? ⟨g, 3, none⟩ = false ∧ w.frozen? ⟨g, 4, none⟩ = false ∧ w.frozen? ⟨g, 5, none⟩ = false :=
  ⟨h.row.frozen 1, h.row.frozen 2, h.row.frozen 3, h.row.frozen 4, h.row.frozen 5⟩
theorem NxR.more (h : NxR w0 N D g gl q A c f w) : w.cell? ⟨gl, 1, none⟩ = some (.slice A N.l.length c) ∧ w.cell? ⟨w0.heap.size, 0, none⟩ = some (.int .u64 (lo 0 : Int)) ∧ w.cell? ⟨w0.heap.size, 1, none⟩ = some (.int .u64 (hi 0 : Int)) ∧ w.frozen? ⟨w0.heap.size, 0, none⟩ = false ∧ w.frozen? ⟨w0.heap.size, 1, none⟩ = false :=
  ⟨h.ls.row.cell (by decide), (setCells h.r).1, (setCells h.r).2.1, h.r.frozen 0, h.r.frozen 1⟩
theorem NxR.lies (h : NxR w0 N D g gl q A c f w) {s : Wk} {k : Int} (e : ∀ i, i < 6 → f i = wkF gl s k i) : WkLies w N D g gl q A c s k := ⟨h.row.congr e, h.net, h.ls, h.lo1, ⟨h.hi1.1, h.hi1.2.1⟩⟩
theorem NxR.nt (h : NxR w0 N D g gl q A c f w) : NtAt w w.heap.size A N.l := h.net.nt.more (Nat.le_of_lt h.row.lt)
theorem NxR.tab (h : NxR w0 N D g gl q A c f w) (hT : Tab w0) (hg : 1 < g) : Tab w := fun j hj => (cellEq (w := w0) (w' := w) (h.grown.block _ hT.lt (by intro e; injection e with e; exact absurd e (Nat.ne_of_lt hg)))).trans (hT j hj)
end
theorem WkLies.start {w : World} {N : Nt} {D g gl q : Nat} {A : Option Addr} {c : Nat} {s : Wk} {k : Int} (h : WkLies w N D g gl q A c s k) : NxR w N D g gl q A c (wkF gl s k) (w.alloc (.cells #[.int .u64 0, .int .u64 0] 27)) := by
  have hb : Below w.heap.size w (w.alloc (.cells #[.int .u64 0, .int .u64 0] 27)) := (Below.refl _ _).alloc (Nat.le_refl _) _
  exact ⟨h.row.alloc _, h.net.below (hb.mono (Nat.le_of_lt h.row.lt)), h.ls.below hb, setZero _ _ _ rfl, h.lo1, ⟨h.hi1.1, h.hi1.2, h.row.lt⟩, only_alloc ⟨rfl, rfl, rfl, Nat.le_refl _, fun _ _ _ => rfl⟩ _⟩
theorem NxR.fin {w0 w : World} {N : Nt} {D g gl q : Nat} {A : Option Addr} {c : Nat} {f : Nat → Value} (h : NxR w0 N D g gl q A c f w) {s : Wk} {k : Int} (e : ∀ i, i < 6 → f i = wkF gl s k i) (u v : Value) :
    WkLies ((w.setCell ⟨w0.heap.size, 0, none⟩ u).setCell ⟨w0.heap.size, 1, none⟩ v) N D g gl q A c s k ∧ w0.grownBy ((w.setCell ⟨w0.heap.size, 0, none⟩ u).setCell ⟨w0.heap.size, 1, none⟩ v) (some g) := by
  have hl := h.lies e
  have h1 := h.hi1.1
  have h2 := h.hi1.2.1
  have h3 := h.hi1.2.2
  have hb : Below w0.heap.size w ((w.setCell ⟨w0.heap.size, 0, none⟩ u).setCell ⟨w0.heap.size, 1, none⟩ v) := ((Below.refl w0.heap.size w).setCell (Nat.le_refl w0.heap.size) _).setCell (Nat.le_refl w0.heap.size) _
  exact ⟨⟨rowBelow' hl.row hb h3, hl.net.below (hb.mono (Nat.le_of_lt h3)), ⟨rowBelow' hl.ls.row hb (by omega), rowBelow' hl.ls.sets hb (by omega)⟩, hl.lo1, hl.hi1⟩, only_setCell (only_setCell h.grown (.inr (Nat.le_refl _)) _) (.inr (Nat.le_refl _)) _⟩
theorem six {P : Nat → Prop} (h0 : P 0) (h1 : P 1) (h2 : P 2) (h3 : P 3) (h4 : P 4) (h5 : P 5) : ∀ i, i < 6 → P i := fun i hi => by
  have : i = 0 ∨ i = 1 ∨ i = 2 ∨ i = 3 ∨ i = 4 ∨ i = 5 := by omega
  rcases this with rfl | rfl | rfl | rfl | rfl | rfl <;> assumption
def NextP (w : World) (N : Nt) (D g gl q : Nat) (A : Option Addr) (c : Nat) (s : Wk) (k : Int) (e : Ending) (w' : World) : Prop :=
  e = .returned (.tuple #[setV (s.next N).set, .bool (s.next N).ok]) ∧ WkLies w' N D g gl q A c (s.step N) (stepN N s k) ∧ w.grownBy w' (some g)
/-- No walk. -/
theorem next_nil (w : World) : Calls Tryd.prog 31 #[.pointer none] w fun e w' => e = .returned (.tuple #[setV 0, .bool false]) ∧ Below w.heap.size w w' := by
  have hb : Below w.heap.size w (w.alloc (.cells #[.int .u64 0, .int .u64 0] 27)) := (Below.refl _ _).alloc (Nat.le_refl _) _
  have hr := setZero w 27 w.heap.size rfl
  obtain ⟨z1, z2, f1, f2⟩ := setCells hr
  go_enter Tryd.func31, Tryd.ntmps31
  go_wp2
  exact ret_set2 rfl 0 rfl rfl hr rfl rfl rfl ⟨rfl, hb⟩
theorem steps_nil (w : World) : Calls Tryd.prog 32 #[.pointer none] w fun e w' => e = .returned (.int .i64 0) ∧ w = w' := by
  go_enter Tryd.func32, Tryd.ntmps32
  go_wp2
  go_ret
  exact ⟨rfl, rfl⟩
/-- A walk that New did not make. -/
theorem next_new (w : World) (g : Nat) (hr : w.rowIs g 67 6 fun i => if i = 0 then .pointer none else if i = 1 then .int .u64 0 else if i = 2 then .int .u64 0 else if i = 3 then .bool false else if i = 4 then .bool false else .int .i64 0) :
    Calls Tryd.prog 31 #[.pointer (some ⟨g, 0, none⟩)] w fun e w' => e = .returned (.tuple #[setV 0, .bool false]) ∧ Below w.heap.size w w' := by
  have hb : Below w.heap.size w (w.alloc (.cells #[.int .u64 0, .int .u64 0] 27)) := (Below.refl _ _).alloc (Nat.le_refl _) _
  have hr0 := setZero w 27 w.heap.size rfl
  obtain ⟨z1, z2, f1, f2⟩ := setCells hr0
  have c0 : (w.alloc (.cells #[.int .u64 0, .int .u64 0] 27)).cell? ⟨g, 0, none⟩ = some (.pointer none) := (hr.alloc _).cell (i := 0) (by decide)
  go_enter Tryd.func31, Tryd.ntmps31
  go_wp2
  exact ret_set2 rfl 0 rfl rfl hr0 rfl rfl rfl ⟨rfl, hb⟩
theorem steps_any (w : World) (g : Nat) (k : Int) (hc : w.cell? ⟨g, 5, none⟩ = some (.int .i64 k)) : Calls Tryd.prog 32 #[.pointer (some ⟨g, 0, none⟩)] w fun e w' => e = .returned (.int .i64 k) ∧ w = w' := by
  go_enter Tryd.func32, Tryd.ntmps32
  go_wp2
  go_ret
  exact ⟨rfl, rfl⟩
set_option maxRecDepth 100000 in
set_option maxHeartbeats 1000000 in
theorem next_any (w : World) (N : Nt) (D g gl q : Nat) (A : Option Addr) (c : Nat) (s : Wk) (k : Int) (h : WkLies w N D g gl q A c s k) (hv : vld N = true) (hd : dcmp N = true) (hT : Tab w) (hg : 1 < g) (hs : IsSet s.last) :
    Calls Tryd.prog 31 #[.pointer (some ⟨g, 0, none⟩)] w (NextP w N D g gl q A c s k) := by
  have hq := h.start
  obtain ⟨hn0, hn1, hl0, hl1⟩ := vld_bounds hv
  have haf : ∀ W f, NxR w N D g gl q A c f W → Calls Tryd.prog 38 #[.pointer (some ⟨gl, 0, none⟩), setV s.last] W fun e w' => e = .returned (.tuple #[setV (afterN N s.last).set, .bool (afterN N s.last).ok]) ∧ Below W.heap.size W w' := fun W f hq => after_any W N A c gl q s.last hq.ls hq.nt hv hd (hq.tab hT hg)
  have hle : ∀ W f, NxR w N D g gl q A c f W → Calls Tryd.prog 63 #[.pointer (some ⟨gl, 0, none⟩), .agg #[.int .u64 0, .int .u64 0], .agg #[.int .u64 0, .int .u64 0]] W fun e w' => e = .returned (.tuple #[setV (leastN N 0 0).set, .bool (leastN N 0 0).ok]) ∧ Below W.heap.size W w' := fun W f hq => least_any W N A c gl q 0 0 hq.ls hq.nt hv (hq.tab hT hg)
  have HAF := Lib.hid haf
  have HLE := Lib.hid hle
  clear haf hle hT
  obtain ⟨last, bg, ov⟩ := s
  cases ov
  · cases bg
    · have hnx : Wk.next N ⟨last, false, false⟩ = leastN N 0 0 := rfl
      have hst : Wk.step N ⟨last, false, false⟩ = ⟨(leastN N 0 0).set, true, !(leastN N 0 0).ok⟩ := rfl
      have hsp : stepN N ⟨last, false, false⟩ k = if (leastN N 0 0).ok then (N.l.length : Int) else 0 := rfl
      unfold NextP
      rw [hnx, hst, hsp]
      obtain ⟨P, hP⟩ : ∃ P, leastN N 0 0 = P := ⟨_, rfl⟩
      rw [hP] at HLE ⊢
      obtain ⟨ps, po⟩ := P
      simp only at HLE
      obtain ⟨c0, c1, c2, c3, c4, c5⟩ := hq.cells
      obtain ⟨f1, f2, f3, f4, f5⟩ := hq.frz
      obtain ⟨m1, z1, z2, y1, y2⟩ := hq.more
      simp only [wkF] at c0 c1 c2 c3 c4 c5
      clear hnx hst hsp hP
      go_enter Tryd.func31, Tryd.ntmps31
      go_wp2_with fail
      refine (HLE.out _ _ (hq.set 5 _)).mono ?_
      rintro e w5 ⟨rfl, hb5⟩
      replace hq := (hq.set 5 _).below hb5
      have hz2 := hq.hi1.2.2
      clear c0 c1 c2 c3 c4 c5 f1 f2 f3 f4 f5 m1 z1 z2 y1 y2
      obtain ⟨c0, c1, c2, c3, c4, c5⟩ := hq.cells
      obtain ⟨f1, f2, f3, f4, f5⟩ := hq.frz
      obtain ⟨m1, z1, z2, y1, y2⟩ := hq.more
      simp [wkF] at c0 c1 c2 c3 c4 c5
      cases po
      · go_wp2
        have hq2 := ((((hq.set 1 (.int .u64 (lo ps : Int))).set 2 (.int .u64 (hi ps : Int))).set 3 (.bool true)).set 4 (.bool true)).set 5 (.int .i64 0)
        exact ret_set2 rfl ps rfl rfl (setPut hq2.r ps) rfl rfl rfl ⟨rfl, hq2.fin (six rfl rfl rfl rfl rfl rfl) _ _⟩
      · go_wp2
        have hq2 := (((hq.set 1 (.int .u64 (lo ps : Int))).set 2 (.int .u64 (hi ps : Int))).set 3 (.bool true)).set 4 (.bool false)
        exact ret_set2 rfl ps rfl rfl (setPut hq2.r ps) rfl rfl rfl ⟨rfl, hq2.fin (six rfl rfl rfl rfl rfl rfl) _ _⟩
    · have hnx : Wk.next N ⟨last, true, false⟩ = afterN N last := rfl
      have hst : Wk.step N ⟨last, true, false⟩ = ⟨(afterN N last).set, true, !(afterN N last).ok⟩ := rfl
      have hsp : stepN N ⟨last, true, false⟩ k = if (afterN N last).ok then 2 * (N.l.length : Int) else 0 := rfl
      unfold NextP
      rw [hnx, hst, hsp]
      simp only at HAF
      obtain ⟨P, hP⟩ : ∃ P, afterN N last = P := ⟨_, rfl⟩
      rw [hP] at HAF ⊢
      obtain ⟨ps, po⟩ := P
      simp only at HAF
      obtain ⟨c0, c1, c2, c3, c4, c5⟩ := hq.cells
      obtain ⟨f1, f2, f3, f4, f5⟩ := hq.frz
      obtain ⟨m1, z1, z2, y1, y2⟩ := hq.more
      simp only [wkF] at c0 c1 c2 c3 c4 c5
      clear hnx hst hsp hP
      go_enter Tryd.func31, Tryd.ntmps31
      go_wp2_with fail
      replace hq := (hq.set 5 (.int .i64 (2 * (N.l.length : Int)))).drew
      clear c0 c1 c2 c3 c4 c5 f1 f2 f3 f4 f5 m1 z1 z2 y1 y2
      obtain ⟨c0, c1, c2, c3, c4, c5⟩ := hq.cells
      obtain ⟨f1, f2, f3, f4, f5⟩ := hq.frz
      obtain ⟨m1, z1, z2, y1, y2⟩ := hq.more
      simp [wkF] at c0 c1 c2 c3 c4 c5
      go_region_law (
        go_simp
        go_at_call 38
        (with_reducible refine (HAF.out _ _ hq).mono ?_)
        rintro e w5 ⟨rfl, hb5⟩
        replace hq := hq.below hb5
        have hz2 := hq.hi1.2.2
        clear c0 c1 c2 c3 c4 c5 f1 f2 f3 f4 f5 m1 z1 z2 y1 y2
        obtain ⟨c0, c1, c2, c3, c4, c5⟩ := hq.cells
        obtain ⟨f1, f2, f3, f4, f5⟩ := hq.frz
        obtain ⟨m1, z1, z2, y1, y2⟩ := hq.more
        simp [wkF] at c0 c1 c2 c3 c4 c5)
      all_goals
        cases po
        · go_wp2
          have hq2 := ((((hq.set 1 (.int .u64 (lo ps : Int))).set 2 (.int .u64 (hi ps : Int))).set 3 (.bool true)).set 4 (.bool true)).set 5 (.int .i64 0)
          exact ret_set2 rfl ps rfl rfl (setPut hq2.r ps) rfl rfl rfl ⟨rfl, hq2.fin (six rfl rfl rfl rfl rfl rfl) _ _⟩
        · go_wp2
          have hq2 := (((hq.set 1 (.int .u64 (lo ps : Int))).set 2 (.int .u64 (hi ps : Int))).set 3 (.bool true)).set 4 (.bool false)
          exact ret_set2 rfl ps rfl rfl (setPut hq2.r ps) rfl rfl rfl ⟨rfl, hq2.fin (six rfl rfl rfl rfl rfl rfl) _ _⟩
  · have hnx : Wk.next N ⟨last, bg, true⟩ = ⟨0, false⟩ := rfl
    have hst : Wk.step N ⟨last, bg, true⟩ = ⟨last, bg, true⟩ := rfl
    have hsp : stepN N ⟨last, bg, true⟩ k = k := rfl
    unfold NextP
    rw [hnx, hst, hsp]
    obtain ⟨c0, c1, c2, c3, c4, c5⟩ := hq.cells
    obtain ⟨f1, f2, f3, f4, f5⟩ := hq.frz
    obtain ⟨m1, z1, z2, y1, y2⟩ := hq.more
    simp only [wkF] at c0 c1 c2 c3 c4 c5
    clear hnx hst hsp
    go_enter Tryd.func31, Tryd.ntmps31
    go_wp2
    exact ret_set2 rfl 0 rfl rfl hq.r rfl rfl rfl ⟨rfl, hq.lies (six rfl rfl rfl rfl rfl rfl), hq.grown⟩
end Go.Proofs.YtemgfhdgpkmmaaaDoor
end
