/- Nets that lie between two bounds; the walks of slices.Clone. -/
import Derived.Test.YtemgfhdgpkmmaaaDoorL4
import Derived.Lib.SliceRun
set_option linter.unusedSimpArgs false
set_option linter.unusedVariables false
open Go Go.RowKit Cs
namespace Cs
/-- The slice at A holds n cells f 0 .. f (n - 1), in a block from D on, below B. -/
def RdK (w : World) (D B : Nat) (A : Option Addr) (n : Nat) (f : Nat → Value) : Prop :=
  0 < n → ∃ b o, A = some ⟨b, o, none⟩ ∧ D ≤ b ∧ b < B ∧ ∀ i, i < n → w.cell? ⟨b, o + i, none⟩ = some (f i)
structure NdK (w : World) (D B b o : Nat) (x : Nd) : Prop where
  kind : w.cell? ⟨b, o, none⟩ = some (.int .i64 x.kind)
  lit : w.cell? ⟨b, o + 1, none⟩ = some (.int .i64 x.lit)
  ins : ∃ A c, w.cell? ⟨b, o + 2, none⟩ = some (.slice A x.ins.length c) ∧ RdK w D B A x.ins.length (intF x.ins)
  rk : r64 x.kind
  rl : r64 x.lit
  ri : ∀ i ∈ x.ins, r64 i
  len : x.ins.length ≤ 140737488355328
/-- The nodes L lie in the slice at A, all in blocks from D on, below B. -/
def NtK (w : World) (D B : Nat) (A : Option Addr) (L : List Nd) : Prop :=
  0 < L.length → ∃ b o, A = some ⟨b, o, none⟩ ∧ D ≤ b ∧ b < B ∧ ∀ i (h : i < L.length), NdK w D B b (o + i * 3) L[i]
section
variable {w w' : World} {D B B' b o n : Nat} {x : Nd} {A : Option Addr} {L : List Nd} {f : Nat → Value}
theorem cellEq {a : Addr} (h : w'.heap[a.block]? = w.heap[a.block]?) : w'.cell? a = w.cell? a := by
  unfold World.cell?; rw [h]
theorem RdK.agree (h : RdK w D B A n f) (hw : ∀ b, D ≤ b → b < B → w'.heap[b]? = w.heap[b]?) : RdK w' D B A n f := fun hn => by
  obtain ⟨b, o, e, hD, hB, hc⟩ := h hn
  exact ⟨b, o, e, hD, hB, fun i hi => (cellEq (hw b hD hB)).trans (hc i hi)⟩
theorem RdK.more (h : RdK w D B A n f) (hB : B ≤ B') : RdK w D B' A n f := fun hn => by
  obtain ⟨b, o, e, hD, hb, hc⟩ := h hn
  exact ⟨b, o, e, hD, by omega, hc⟩
theorem RdK.rd (h : RdK w D B A n f) : Rd w B A n f := fun hn => by
  obtain ⟨b, o, e, hD, hb, hc⟩ := h hn
  exact ⟨b, o, e, hb, hc⟩
theorem NdK.agree (h : NdK w D B b o x) (hw : ∀ b, D ≤ b → b < B → w'.heap[b]? = w.heap[b]?) (hD : D ≤ b) (hB : b < B) : NdK w' D B b o x :=
  ⟨(cellEq (hw b hD hB)).trans h.kind, (cellEq (hw b hD hB)).trans h.lit, (let ⟨A, c, h1, h2⟩ := h.ins; ⟨A, c, (cellEq (hw b hD hB)).trans h1, h2.agree hw⟩), h.rk, h.rl, h.ri, h.len⟩
theorem NdK.more (h : NdK w D B b o x) (hB : B ≤ B') : NdK w D B' b o x :=
  ⟨h.kind, h.lit, (let ⟨A, c, h1, h2⟩ := h.ins; ⟨A, c, h1, h2.more hB⟩), h.rk, h.rl, h.ri, h.len⟩
theorem NdK.nd (h : NdK w D B b o x) : NdAt w B b o x :=
  ⟨h.kind, h.lit, (let ⟨A, c, h1, h2⟩ := h.ins; ⟨A, c, h1, h2.rd⟩), h.rk, h.rl, h.ri, h.len⟩
theorem NtK.agree (h : NtK w D B A L) (hw : ∀ b, D ≤ b → b < B → w'.heap[b]? = w.heap[b]?) : NtK w' D B A L := fun hn => by
  obtain ⟨b, o, e, hD, hB, hc⟩ := h hn
  exact ⟨b, o, e, hD, hB, fun i hi => (hc i hi).agree hw hD hB⟩
theorem NtK.more (h : NtK w D B A L) (hB : B ≤ B') : NtK w D B' A L := fun hn => by
  obtain ⟨b, o, e, hD, hb, hc⟩ := h hn
  exact ⟨b, o, e, hD, by omega, fun i hi => (hc i hi).more hB⟩
theorem NtK.nt (h : NtK w D B A L) : NtAt w B A L := fun hn => by
  obtain ⟨b, o, e, hD, hb, hc⟩ := h hn
  exact ⟨b, o, e, hb, fun i hi => (hc i hi).nd⟩
theorem NtK.below (h : NtK w D B A L) (hb : Below B w w') : NtK w' D B A L := h.agree fun b _ hB => hb.block b hB
theorem RdK.below (h : RdK w D B A n f) (hb : Below B w w') : RdK w' D B A n f := h.agree fun b _ hB => hb.block b hB
/-- An own row, as a row of cells with what it holds. -/
theorem ownsRowIs {base : Nat} {e : TypeId} {size : Nat} {v : Value} {xs : List Value} (h : w.ownsRow base e size v n xs) (hn : 0 < n) :
    ∃ g cap f, v = .slice (some ⟨g, 0, none⟩) n cap ∧ base ≤ g ∧ g < w.heap.size ∧ n ≤ cap ∧ w.rowIs g e (cap * size) f ∧ ∀ i, i < n * size → xs[i]? = some (f i) := by
  obtain ⟨h1, h2⟩ := h
  rcases h2 with ⟨_, h0⟩ | ⟨g, cap, cur, rfl, hb, hg, hc, _, hs, ht⟩
  · omega
  · have hlt : g < w.heap.size := by
      rcases Nat.lt_or_ge g w.heap.size with h' | h'
      · exact h'
      · rw [Array.getElem?_eq_none h'] at hg; cases hg
    refine ⟨g, cap, fun i => cur.getD i undef, rfl, hb, hlt, hc, ⟨cur, hg, hs, fun i hi => ?_⟩, fun i hi => ?_⟩
    · show cur[i]? = some (cur.getD i undef)
      rw [Array.getD_eq_getD_getElem?, Array.getElem?_eq_getElem (by omega)]; rfl
    · have hle : n * size ≤ cap * size := Nat.mul_le_mul_right _ hc
      rw [← ht, List.getElem?_take, if_pos hi]
      show cur.toList[i]? = some (cur.getD i undef)
      rw [Array.getD_eq_getD_getElem?]
      rw [Array.getElem?_toList, Array.getElem?_eq_getElem (by omega)]; rfl
end
/-- No node has more than 40 inputs. -/
def slim (l : List Nd) : Bool := l.all fun x => decide (x.ins.length ≤ 40)
def lightB (N : Nt) (m : Nat) : Bool := slim N.l && decide (N.l.length ≤ m)
theorem slim_take {l : List Nd} {k : Nat} (h : k < l.length) : slim (l.take (k + 1)) = (slim (l.take k) && decide (l[k].ins.length ≤ 40)) := by
  unfold slim
  rw [List.take_succ_eq_append_getElem h, List.all_append]
  simp
theorem slim_not {l : List Nd} {k : Nat} (h : k < l.length) (h2 : ¬ l[k].ins.length ≤ 40) : slim l = false := by
  cases hs : slim l
  · rfl
  · unfold slim at hs
    rw [List.all_eq_true] at hs
    have := hs l[k] (List.getElem_mem h)
    simp only [decide_eq_true_eq] at this
    exact absurd this h2
end Cs
namespace Go.Proofs.YtemgfhdgpkmmaaaDoor
theorem info_node : (Tryd.prog.info? 41).map (fun i => (i.zero, i.size, i.bytes)) = some (some (.agg #[.int .i64 0, .int .i64 0, .slice none 0 0]), 3, 40) := by kernel_rfl
theorem info_int' : (Tryd.prog.info? 3).map (fun i => (i.zero, i.size, i.bytes)) = some (some (.int .i64 0), 1, 8) := by kernel_rfl
/-- What a clone is: its own row. -/
def ClnI (w : World) (xs : List Int) (e : Ending) (w' : World) : Prop := ∃ A c, e = .returned (.slice A xs.length c) ∧ RdK w' w.heap.size w'.heap.size A xs.length (intF xs) ∧ Below w.heap.size w w'
def ClnN (w : World) (n : Nat) (f : Nat → Value) (e : Ending) (w' : World) : Prop := ∃ A c, e = .returned (.slice A n c) ∧ (0 < n → ∃ g F, A = some ⟨g, 0, none⟩ ∧ w.heap.size ≤ g ∧ n ≤ c ∧ w'.rowIs g 41 (c * 3) F ∧ ∀ i, i < n * 3 → F i = f i) ∧ Below w.heap.size w w'
theorem clnI_mk (w : World) (xs : List Int) (v : Value) (w' : World) (h : w'.ownsRow w.heap.size 3 1 v xs.length (xs.map (Value.int .i64))) (hn : v = .slice none 0 0 → False) (hb : Below w.heap.size w w') : ClnI w xs (.returned v) w' := by
  rcases Nat.eq_zero_or_pos xs.length with h0 | h0
  · rcases h.2 with ⟨e, _⟩ | ⟨g, cap, cur, e, _⟩
    · exact (hn e).elim
    · exact ⟨_, _, by rw [e], fun h' => absurd h' (by omega), hb⟩
  · obtain ⟨g, cap, f, rfl, hg, hlt, hc, hr, hf⟩ := ownsRowIs h h0
    refine ⟨_, _, rfl, fun _ => ⟨g, 0, rfl, hg, hlt, fun i hi => ?_⟩, hb⟩
    rw [Nat.zero_add, hr.cell (by omega)]
    have := hf i (by omega)
    rw [← this]
    simp [intF, List.getD, List.getElem?_eq_getElem hi]
theorem clnN_mk (w : World) (n : Nat) (f : Nat → Value) (v : Value) (w' : World) (h : w'.ownsRow w.heap.size 41 3 v n ((List.range (n * 3)).map f)) (hn : v = .slice none 0 0 → False) (hb : Below w.heap.size w w') : ClnN w n f (.returned v) w' := by
  rcases Nat.eq_zero_or_pos n with h0 | h0
  · rcases h.2 with ⟨e, _⟩ | ⟨g, cap, cur, e, _⟩
    · exact (hn e).elim
    · exact ⟨_, _, by rw [e], fun h' => absurd h' (by omega), hb⟩
  · obtain ⟨g, cap, F, rfl, hg, hlt, hc, hr, hf⟩ := ownsRowIs h h0
    refine ⟨_, _, rfl, fun _ => ⟨g, F, rfl, hg, hc, hr, fun i hi => ?_⟩, hb⟩
    have := hf i hi
    have e : ((List.range (n * 3)).map f)[i]? = some (f i) := by simp [hi]
    rw [e] at this
    exact (Option.some.inj this).symm
set_option maxRecDepth 100000 in
set_option maxHeartbeats 1000000 in
theorem cloneInts_any (w : World) (A : Option Addr) (c : Nat) (xs : List Int) (hlen : xs.length ≤ 1000000000000) (hA : Rd w w.heap.size A xs.length (intF xs)) :
    Calls Tryd.prog 58 #[.slice A xs.length c] w (ClnI w xs) := by
  obtain ⟨i0, hi, hz0, hz1, hz2⟩ := info_parts info_int'
  have q22 : ∀ (w : World) (a : Option Addr) (n c n' c' : Nat), (binOp .eql 39 (.slice a n c) (.slice none n' c')).run Tryd.prog w = .ok (.bool a.isNone) w := fun w a n c n' c' => Lib.run_eql_slice_nil w _ _ a n c n' c' Tryd.underlying39
  cases A with
  | none =>
    have h0 : xs.length = 0 := by
      rcases Nat.eq_zero_or_pos xs.length with h | h
      · exact h
      · obtain ⟨b, o, e, _⟩ := hA h; cases e
    obtain rfl : xs = [] := List.eq_nil_of_length_eq_zero h0
    clear h0 hA hlen
    go_enter Tryd.func58, Tryd.ntmps58
    go_wp2
    go_ret
    exact ⟨none, 0, rfl, fun h => absurd h (by simp), Below.refl _ _⟩
  | some a =>
    have HA := Lib.hid hA
    clear hA
    go_enter Tryd.func58, Tryd.ntmps58
    go_wp2_with (at_builtin; refine wpList_append_own _ rfl _ _ 39 rfl w.heap.size 3 i0 (.int .i64 0) 1 8 Tryd.underlying39 hi hz0 hz1 hz2 rfl (by decide) _ _ _ rfl (World.ownsRow_made w #[] 0 (Nat.le_refl _) (Nat.zero_le _) rfl) a xs.length c (xs.map (Value.int .i64)) rfl ?qc1 ?qc2 ?qc3 ?qc4 ?qc5 ?qc6 ?_)
    case qc1 => simp
    case qc2 =>
      intro j u hj
      have hjn : j < xs.length := by
        have := (List.getElem?_eq_some_iff.1 hj).1
        simpa using this
      obtain ⟨b, o, e, hB, hc⟩ := HA.out (by omega)
      obtain rfl : a = ⟨b, o, none⟩ := by injection e
      rw [Addr.add_lit]
      refine Lib.cell?_alloc_some _ ?_
      rw [hc j hjn]
      have e : (xs.map (Value.int .i64))[j]? = some (intF xs j) := by simp [intF, List.getD, List.getElem?_eq_getElem hjn]
      rw [e] at hj
      exact hj
    case qc3 => intro u hu; obtain ⟨x, _, rfl⟩ := List.mem_map.1 hu; rfl
    case qc4 => unfold maxLen; omega
    case qc5 => omega
    case qc6 => simp
    intro v' w1 hown hgrow hnil
    go_wp2
    go_ret
    exact clnI_mk w xs v' w1 (by simpa using hown) hnil (((Below.refl _ w).alloc (Nat.le_refl _) _).grown hgrow (by simp) (by intro k hk; simp [Value.ownBlock] at hk; omega))
set_option maxRecDepth 100000 in
set_option maxHeartbeats 1000000 in
theorem cloneNodes_any (w : World) (A : Option Addr) (c : Nat) (n : Nat) (f : Nat → Value) (hlen : n ≤ 1000000000000) (h1 : ∀ i, i < n * 3 → (f i).oneCell' = true) (hA : Rd w w.heap.size A (n * 3) f) :
    Calls Tryd.prog 57 #[.slice A n c] w (ClnN w n f) := by
  obtain ⟨i0, hi, hz0, hz1, hz2⟩ := info_parts info_node
  have q22 : ∀ (w : World) (a : Option Addr) (n c n' c' : Nat), (binOp .eql 22 (.slice a n c) (.slice none n' c')).run Tryd.prog w = .ok (.bool a.isNone) w := fun w a n c n' c' => Lib.run_eql_slice_nil w _ _ a n c n' c' Tryd.underlying22
  cases A with
  | none =>
    obtain rfl : n = 0 := by
      rcases Nat.eq_zero_or_pos n with h | h
      · exact h
      · obtain ⟨b, o, e, _⟩ := hA (by omega); cases e
    clear hA hlen h1
    go_enter Tryd.func57, Tryd.ntmps57
    go_wp2
    go_ret
    exact ⟨none, 0, rfl, fun h => absurd h (by omega), Below.refl _ _⟩
  | some a =>
    have HA := Lib.hid hA
    clear hA
    go_enter Tryd.func57, Tryd.ntmps57
    go_wp2_with (at_builtin; refine wpList_append_own _ rfl _ _ 22 rfl w.heap.size 41 i0 (.agg #[.int .i64 0, .int .i64 0, .slice none 0 0]) 3 40 Tryd.underlying22 hi hz0 hz1 hz2 rfl (by decide) _ _ _ rfl (World.ownsRow_made w #[] 0 (Nat.le_refl _) (Nat.zero_le _) rfl) a n c ((List.range (n * 3)).map f) rfl ?qc1 ?qc2 ?qc3 ?qc4 ?qc5 ?qc6 ?_)
    case qc1 => simp
    case qc2 =>
      intro j u hj
      have hjn : j < n * 3 := by
        have := (List.getElem?_eq_some_iff.1 hj).1
        simpa using this
      obtain ⟨b, o, e, hB, hc⟩ := HA.out (by omega)
      obtain rfl : a = ⟨b, o, none⟩ := by injection e
      rw [Addr.add_lit]
      refine Lib.cell?_alloc_some _ ?_
      rw [hc j hjn]
      have e : ((List.range (n * 3)).map f)[j]? = some (f j) := by simp [hjn]
      rw [e] at hj
      exact hj
    case qc3 => intro u hu; obtain ⟨x, hx, rfl⟩ := List.mem_map.1 hu; exact h1 x (by simpa using hx)
    case qc4 => unfold maxLen; omega
    case qc5 => omega
    case qc6 => simp
    intro v' w1 hown hgrow hnil
    go_wp2
    go_ret
    exact clnN_mk w n f v' w1 (by simpa using hown) hnil (((Below.refl _ w).alloc (Nat.le_refl _) _).grown hgrow (by simp) (by intro k hk; simp [Value.ownBlock] at hk; omega))
end Go.Proofs.YtemgfhdgpkmmaaaDoor
