import Derived.Test.YtgnobohfnhpkdaaGreatDoorYc
import Derived.Test.YtgnobohfnhpkdaaGreatDoorDs
import Derived.Lib.SliceRun
import Derived.Test.YtgnobohfnhpkdaaGreatDoorYb
import Derived.Test.YtgnobohfnhpkdaaGreatDoorNs
import Derived.WalkMore
import Derived.Deep.CutBlock
import Derived.Deep.CutRange
import Derived.BigRegion
set_option linter.unusedSimpArgs false
set_option linter.unusedVariables false
set_option maxRecDepth 100000
set_option maxHeartbeats 4000000
section
open Go Go.RowKit Cs
namespace Cs
theorem ownsRows {w : World} {n : Nat} {base : Nat} {e : TypeId} {size : Nat} {v : Value} {xs : List Value} (h : w.ownsRow base e size v n xs) (hn : 0 < n) :
  ∃ g cap f, v = .slice (some ⟨g, 0, none⟩) n cap ∧ base ≤ g ∧ g < w.heap.size ∧ n ≤ cap ∧ w.rowIs g e (cap * size) f ∧ ∀ i, i < n * size → xs[i]? = some (f i) := by
 obtain ⟨h1, h2⟩ := h;rcases h2 with ⟨_, h0⟩ | ⟨g, cap, cur, rfl, hb, hg, hc, _, hs, ht⟩
 ·omega
 ·have hlt : g < w.heap.size := by
   rcases Nat.lt_or_ge g w.heap.size with h' | h'
   ·exact h'
   ·rw [Array.getElem?_eq_none h'] at hg; cases hg
  refine ⟨g, cap, fun i => cur.getD i undef, rfl, hb, hlt, hc, ⟨cur, hg, hs, fun i hi => ?_⟩, fun i hi => ?_⟩
  ·show cur[i]? = some (cur.getD i undef)
   rw [Array.getD_eq_getD_getElem?, Array.getElem?_eq_getElem (by omega)]; rfl
  ·have hle : n * size ≤ cap * size := Nat.mul_le_mul_right _ hc;rw [← ht, List.getElem?_take, if_pos hi];show cur.toList[i]? = some (cur.getD i undef);rw [Array.getD_eq_getD_getElem?]
   rw [Array.getElem?_toList, Array.getElem?_eq_getElem (by omega)]; rfl
end Cs
namespace Go.Proofs.YtgnobohfnhpkdaaGreatDoor
def ClnR (w : World) (n : Nat) (f : Nat → Value) (e : Ending) (w' : World) : Prop := ∃ A c, e = .returned (.slice A n c) ∧ (0 < n → ∃ g F, A = some ⟨g, 0, none⟩ ∧ w.heap.size ≤ g ∧ n ≤ c ∧ w'.rowIs g 74 (c * 2) F ∧ ∀ i, i < n * 2 → F i = f i) ∧ Below w.heap.size w w'
theorem clnR_mk (w : World) (n : Nat) (f : Nat → Value) (v : Value) (w' : World) (h : w'.ownsRow w.heap.size 74 2 v n ((List.range (n * 2)).map f)) (hn : v = .slice none 0 0 → False) (hb : Below w.heap.size w w') : ClnR w n f (.returned v) w' := by
 rcases Nat.eq_zero_or_pos n with h0 | h0
 ·rcases h.2 with ⟨e, _⟩ | ⟨g, cap, cur, e, _⟩
  ·exact (hn e).elim
  ·exact ⟨_, _, by rw [e], fun h' => absurd h' (by omega), hb⟩
 ·obtain ⟨g, cap, F, rfl, hg, hlt, hc, hr, hf⟩ := ownsRows h h0;refine ⟨_, _, rfl, fun _ => ⟨g, F, rfl, hg, hc, hr, fun i hi => ?_⟩, hb⟩;have := hf i hi
  have e : ((List.range (n * 2)).map f)[i]? = some (f i) := by simp [hi]
  rw [e] at this;exact (Option.some.inj this).symm
theorem cloneRats_any (w : World) (A : Option Addr) (c : Nat) (n : Nat) (f : Nat → Value) (hlen : n ≤ 1000000000000) (h1 : ∀ i, i < n * 2 → (f i).oneCell' = true) (hA : Rd w w.heap.size A (n * 2) f) :
  Calls Tryz.prog 77 #[.slice A n c] w (ClnR w n f) := by
 obtain ⟨i0, hi, hz0, hz1, hz2⟩ := info_parts info_rat;have q22 : ∀ (w : World) (a : Option Addr) (n c n' c' : Nat), (binOp .eql 44 (.slice a n c) (.slice none n' c')).run Tryz.prog w = .ok (.bool a.isNone) w := fun w a n c n' c' => Lib.run_eql_slice_nil w _ _ a n c n' c' Tryz.underlying44;cases A with
 | none =>
   obtain rfl : n = 0 := by
    rcases Nat.eq_zero_or_pos n with h | h
    ·exact h
    ·obtain ⟨b, o, e, _⟩ := hA (by omega); cases e
   clear hA hlen h1
   go_enter Tryz.func77, Tryz.ntmps77
   go_wp2
   go_ret
   exact ⟨none, 0, rfl, fun h => absurd h (by omega), zqr _ _⟩
 | some a =>
   have HA := zqh hA;clear hA
   go_enter Tryz.func77, Tryz.ntmps77
   go_wp2_with (at_builtin; refine wpList_append_own _ rfl _ _ 44 rfl w.heap.size 74 i0 (.agg #[.string ⟨#[]⟩, .string ⟨#[]⟩]) 2 32 Tryz.underlying44 hi hz0 hz1 hz2 rfl (by decide) _ _ _ rfl (World.ownsRow_made w #[] 0 (zqn _) (Nat.zero_le _) rfl) a n c ((List.range (n * 2)).map f) rfl ?qc1 ?qc2 ?qc3 ?qc4 ?qc5 ?qc6 ?_)
   case qc1 => simp
   case qc2 =>
    intro j u hj
    have hjn : j < n * 2 := by
     have := (List.getElem?_eq_some_iff.1 hj).1
     simpa using this
    obtain ⟨b, o, e, hB, hc⟩ := HA.out (by omega)
    obtain rfl : a = ⟨b, o, none⟩ := by injection e
    rw [Addr.add_lit];refine Lib.cell?_alloc_some _ ?_;rw [hc j hjn]
    have e : ((List.range (n * 2)).map f)[j]? = some (f j) := by simp [hjn]
    rw [e] at hj;exact hj
   case qc3 => intro u hu; obtain ⟨x, hx, rfl⟩ := List.mem_map.1 hu; exact h1 x (by simpa using hx)
   case qc4 => unfold maxLen; omega
   case qc5 => omega
   case qc6 => simp
   intro v' w1 hown hgrow hnil
   go_wp2
   go_ret
   exact clnR_mk w n f v' w1 (by simpa using hown) hnil (((Below.refl _ w).alloc (zqn _) _).grown hgrow (by simp) (by intro k hk; simp [Value.ownBlock] at hk; omega))
end Go.Proofs.YtgnobohfnhpkdaaGreatDoor
end
section
open Go Go.RowKit Cs
namespace Cs
def PrR (w : World) (g : Nat) (t : TypeId) (m n : Nat) (L : List Pr) : Prop := ∃ F, w.rowIs g t m F ∧ ∀ i, i < n * 2 → F i = prsF L i
theorem PrR.below {w w' : World} {g m n : Nat} {t : TypeId} {L : List Pr} (h : PrR w g t m n L) (hb : Below w.heap.size w w') : PrR w' g t m n L := by
 obtain ⟨F, h1, h2⟩ := h;exact ⟨F, rowBelow h1 hb, h2⟩
theorem PrR.setOther {w : World} {g m n : Nat} {t : TypeId} {L : List Pr} (h : PrR w g t m n L) {a : Addr} (ha : g ≠ a.block) (v : Value) : PrR (w.setCell a v) g t m n L := by
 obtain ⟨F, h1, h2⟩ := h;exact ⟨F, h1.setOther ha v, h2⟩
theorem PrR.cells {w : World} {g m n : Nat} {t : TypeId} {L : List Pr} (h : PrR w g t m n L) (hm : n * 2 ≤ m) (k : Nat) (hk : k < n) : w.cell? ⟨g, k * 2, none⟩ = some (.string (natB (L.getD k (0, 0)).1)) ∧ w.cell? ⟨g, k * 2 + 1, none⟩ = some (.string (natB (L.getD k (0, 0)).2)) ∧
  w.frozen? ⟨g, k * 2, none⟩ = false ∧ w.frozen? ⟨g, k * 2 + 1, none⟩ = false := by
 obtain ⟨F, h1, h2⟩ := h;exact ⟨(h1.cell (i := k * 2) (by omega)).trans (by rw [h2 _ (by omega), prsF_0]), (h1.cell (i := k * 2 + 1) (by omega)).trans (by rw [h2 _ (by omega), prsF_1]), h1.frozen _, h1.frozen _⟩
theorem PrR.set {w : World} {g m n : Nat} {t : TypeId} {L : List Pr} (h : PrR w g t m n L) (p : Pr) (k : Nat) (hk : k < n) (hL : L.length = n) :
  PrR ((w.setCell ⟨g, k * 2, none⟩ (.string (natB p.1))).setCell ⟨g, k * 2 + 1, none⟩ (.string (natB p.2))) g t m n (L.set k p) := by
 obtain ⟨F, h1, h2⟩ := h;refine ⟨_, (h1.set _ _).set _ _, fun i hi => ?_⟩
 have e : ∀ j, (L.set k p).getD j (0, 0) = if j = k then p else L.getD j (0, 0) := fun j => by
  rw [List.getD_eq_getElem?_getD, List.getD_eq_getElem?_getD, List.getElem?_set];split
  ·rename_i h1; rw [if_pos h1.symm]; subst h1; first | rfl | (rw [if_pos (by omega)]; rfl)
  ·rename_i h1; rw [if_neg (fun h => h1 h.symm)]
 by_cases h3 : i = k * 2 + 1
 ·subst h3; rw [if_pos rfl, prsF_1, e, if_pos rfl]
 ·rw [if_neg h3];by_cases h4 : i = k * 2
  ·subst h4; rw [if_pos rfl, prsF_0, e, if_pos rfl]
  ·rw [if_neg h4, h2 i hi]
   have h5 : ¬ i / 2 = k := by omega
   unfold prsF;simp only [e, h5, if_false]
theorem PrR.lt {w : World} {g m n : Nat} {t : TypeId} {L : List Pr} (h : PrR w g t m n L) : g < w.heap.size := by obtain ⟨F, h1, h2⟩ := h; exact h1.lt
theorem PrR.rd {w : World} {g m n : Nat} {t : TypeId} {L : List Pr} (h : PrR w g t m n L) (hm : n * 2 ≤ m) : Rd w w.heap.size (some ⟨g, 0, none⟩) (n * 2) (prsF L) := fun _ => by
 obtain ⟨F, h1, h2⟩ := h;exact ⟨g, 0, rfl, h1.lt, fun i hi => by rw [Nat.zero_add, h1.cell (i := i) (by omega), h2 i hi]⟩
structure ChAt (w wr : World) (tN tW tR tS tP : TypeId) (n ln : Nat) (A : Option Addr) (c gl cgl gh cgh : Nat) (s : Ch) : Prop where
 net : wr.rowIs w.heap.size tN 2 (arrF #[.int .i64 (n : Int), .slice A ln c])
 wts : wr.rowIs (w.heap.size + 1) tW 2 (arrF #[.slice (some ⟨gl, 0, none⟩) (n + 1) cgl, .slice (some ⟨gh, 0, none⟩) (n + 1) cgh])
 rb : wr.rowIs (w.heap.size + 1 + 1) tR 1 (fun _ => .string (natB s.r))
 res : wr.rowIs (w.heap.size + 1 + 1 + 1) tS 2 (arrF #[.int .u64 0, .int .u64 0])
 ab : wr.rowIs (w.heap.size + 1 + 1 + 1 + 1) tS 2 (arrF #[.int .u64 (lo s.a : Int), .int .u64 (hi s.a : Int)])
 low : PrR wr gl tP (cgl * 2) (n + 1) s.lo
 high : PrR wr gh tP (cgh * 2) (n + 1) s.hi
 og : w.heap.size + 1 + 1 + 1 + 1 < gl
 oh : gl < gh
 cl : n + 1 ≤ cgl
 ch : n + 1 ≤ cgh
 bl : Below w.heap.size w wr
theorem ChAt.below {w wr w' : World} {tN tW tR tS tP : TypeId} {n ln : Nat} {A : Option Addr} {c gl cgl gh cgh : Nat} {s : Ch} (h : ChAt w wr tN tW tR tS tP n ln A c gl cgl gh cgh s) (hb : Below wr.heap.size wr w') : ChAt w w' tN tW tR tS tP n ln A c gl cgl gh cgh s :=
 ⟨rowBelow h.net hb, rowBelow h.wts hb, rowBelow h.rb hb, rowBelow h.res hb, rowBelow h.ab hb, h.low.below hb, h.high.below hb, h.og, h.oh, h.cl, h.ch, h.bl.trans (hb.mono h.bl.size)⟩
section
variable {w wr : World} {tN tW tR tS tP : TypeId} {n ln : Nat} {A : Option Addr} {c gl cgl gh cgh : Nat} {s : Ch}
theorem ChAt.setHi (h : ChAt w wr tN tW tR tS tP n ln A c gl cgl gh cgh s) (p : Pr) (v : Nat) (hv : v < n + 1) (hL : s.hi.length = n + 1) :
  ChAt w ((wr.setCell ⟨gh, v * 2, none⟩ (.string (natB p.1))).setCell ⟨gh, v * 2 + 1, none⟩ (.string (natB p.2))) tN tW tR tS tP n ln A c gl cgl gh cgh ⟨s.r, s.lo, s.hi.set v p, s.a⟩ := by
 have h1 := h.og;have h2 := h.oh;refine ⟨(h.net.setOther ?_ _).setOther ?_ _, (h.wts.setOther ?_ _).setOther ?_ _, (h.rb.setOther ?_ _).setOther ?_ _, (h.res.setOther ?_ _).setOther ?_ _, (h.ab.setOther ?_ _).setOther ?_ _, (h.low.setOther ?_ _).setOther ?_ _, h.high.set p v hv hL, h1, h2, h.cl, h.ch, (h.bl.setCell ?_ _).setCell ?_ _⟩
 all_goals (simp only []; omega)
theorem ChAt.setLo (h : ChAt w wr tN tW tR tS tP n ln A c gl cgl gh cgh s) (p : Pr) (v : Nat) (hv : v < n + 1) (hL : s.lo.length = n + 1) :
  ChAt w ((wr.setCell ⟨gl, v * 2, none⟩ (.string (natB p.1))).setCell ⟨gl, v * 2 + 1, none⟩ (.string (natB p.2))) tN tW tR tS tP n ln A c gl cgl gh cgh ⟨s.r, s.lo.set v p, s.hi, s.a⟩ := by
 have h1 := h.og;have h2 := h.oh;refine ⟨(h.net.setOther ?_ _).setOther ?_ _, (h.wts.setOther ?_ _).setOther ?_ _, (h.rb.setOther ?_ _).setOther ?_ _, (h.res.setOther ?_ _).setOther ?_ _, (h.ab.setOther ?_ _).setOther ?_ _, h.low.set p v hv hL, (h.high.setOther ?_ _).setOther ?_ _, h1, h2, h.cl, h.ch, (h.bl.setCell ?_ _).setCell ?_ _⟩
 all_goals (simp only []; omega)
theorem ChAt.setR (h : ChAt w wr tN tW tR tS tP n ln A c gl cgl gh cgh s) (D : Nat) :
  ChAt w (wr.setCell ⟨w.heap.size + 1 + 1, 0, none⟩ (.string (natB D))) tN tW tR tS tP n ln A c gl cgl gh cgh ⟨D, s.lo, s.hi, s.a⟩ := by
 have h1 := h.og;have h2 := h.oh;refine ⟨h.net.setOther ?_ _, h.wts.setOther ?_ _, boxSet h.rb _, h.res.setOther ?_ _, h.ab.setOther ?_ _, h.low.setOther ?_ _, h.high.setOther ?_ _, h1, h2, h.cl, h.ch, h.bl.setCell ?_ _⟩
 all_goals (simp only []; omega)
theorem ChAt.setA (h : ChAt w wr tN tW tR tS tP n ln A c gl cgl gh cgh s) (a : Nat) :
  ChAt w ((wr.setCell ⟨w.heap.size + 1 + 1 + 1 + 1, 0, none⟩ (.int .u64 (lo a : Int))).setCell ⟨w.heap.size + 1 + 1 + 1 + 1, 1, none⟩ (.int .u64 (hi a : Int))) tN tW tR tS tP n ln A c gl cgl gh cgh ⟨s.r, s.lo, s.hi, a⟩ := by
 have h1 := h.og;have h2 := h.oh;refine ⟨(h.net.setOther ?_ _).setOther ?_ _, (h.wts.setOther ?_ _).setOther ?_ _, (h.rb.setOther ?_ _).setOther ?_ _, (h.res.setOther ?_ _).setOther ?_ _, pairRow h.ab _ _, (h.low.setOther ?_ _).setOther ?_ _, (h.high.setOther ?_ _).setOther ?_ _, h1, h2, h.cl, h.ch, (h.bl.setCell ?_ _).setCell ?_ _⟩
 all_goals (simp only []; omega)
end
theorem set_back (L : List Pr) (v : Nat) : (zr L v).set v (L.getD v (0, 0)) = L := by
 unfold zr;rw [List.set_set];rcases Nat.lt_or_ge v L.length with h | h
 ·rw [List.getD_eq_getElem?_getD, List.getElem?_eq_getElem h];show L.set v L[v] = L;exact List.set_getElem_self h
 ·exact List.set_eq_of_length_le h
end Cs
namespace Go.Proofs.YtgnobohfnhpkdaaGreatDoor
theorem choice_any (w : World) (N : Nt) (A : Option Addr) (c cl ch n r : Nat) (lo hi : List Pr) (Al Ah : Option Addr) (hN : NtAt w w.heap.size A N.l) (hv : vld N = true) (hn : N.n = (n : Int)) (hn2 : n ≤ 128) (hT : Tab w)
  (hin : ∀ k (hk : k < N.l.length), N.l[k].ins.length ≤ 1000000) (hW : WtFit N n lo hi)
  (hlo : Rd w w.heap.size Al ((n + 1) * 2) (prsF lo)) (hhi : Rd w w.heap.size Ah ((n + 1) * 2) (prsF hi)) (hr : n8 r ≤ 100000) :
  Calls Tryz.prog 53 #[ntV N A c, wtsV Al Ah (n + 1) (n + 1) cl ch, natV r] w fun e w' => e = .returned (setV (choiceN N n lo hi r)) ∧ Below w.heap.size w w' := by
 have h1 : ∀ (L : List Pr) i, i < (n + 1) * 2 → (prsF L i).oneCell' = true := fun L i _ => rfl;have hc1 := fun W (hb : Below w.heap.size w W) => cloneRats_any W Al cl (n + 1) (prsF lo) (by omega) (h1 lo) ((hlo.below hb).more hb.size);have hc2 := fun W (hb : Below w.heap.size w W) => cloneRats_any W Ah ch (n + 1) (prsF hi) (by omega) (h1 hi) ((hhi.below hb).more hb.size);have HC1 := zqh hc1;have HC2 := zqh hc2;clear hc1 hc2 h1;obtain ⟨Nn, l⟩ := N;simp only at hn;subst hn;obtain ⟨Z, hZ⟩ : ∃ Z, choiceN ⟨(n : Int), l⟩ n lo hi r = Z := ⟨_, rfl⟩;rw [hZ];have HZ := zqh hZ;clear hZ;have q0 := (((((Bag.zero w).new #[.int .i64 (n : Int), .slice A l.length c] 24 w.heap.size 2 rfl rfl).new #[.slice Al (n + 1) cl, .slice Ah (n + 1) ch] 46 (w.heap.size + 1) 2 (by simp) rfl).new #[.string (natB r)] 59 (w.heap.size + 1 + 1) 1 (by simp) rfl).new #[.int .u64 0, .int .u64 0] 30 (w.heap.size + 1 + 1 + 1) 2 (by simp) rfl).new #[.int .u64 0, .int .u64 0] 30 (w.heap.size + 1 + 1 + 1 + 1) 2 (by simp) rfl
 go_enter Tryz.func53, Tryz.ntmps53
 go_wp2_with fail
 obtain ⟨W, hW'⟩ : ∃ W, ((((w.alloc (.cells #[.int .i64 (n : Int), .slice A l.length c] 24)).alloc (.cells #[.slice Al (n + 1) cl, .slice Ah (n + 1) ch] 46)).alloc (.cells #[.string (natB r)] 59)).alloc (.cells #[.int .u64 0, .int .u64 0] 30)).alloc (.cells #[.int .u64 0, .int .u64 0] 30) = W := ⟨_, rfl⟩;rw [hW'] at q0 ⊢;clear hW';have q6 := q0.drew;have m1 := q6.is (w.heap.size + 1) 2 46 #[.slice Al (n + 1) cl, .slice Ah (n + 1) ch] (by simp) 0 (by decide) (.slice Al (n + 1) cl) rfl;have m2 := q6.is (w.heap.size + 1) 2 46 #[.slice Al (n + 1) cl, .slice Ah (n + 1) ch] (by simp) 1 (by decide) (.slice Ah (n + 1) ch) rfl;have y1 := (q6.rows (w.heap.size + 1, 46, 2, #[.slice Al (n + 1) cl, .slice Ah (n + 1) ch]) (by simp)).frozen 0;have y2 := (q6.rows (w.heap.size + 1, 46, 2, #[.slice Al (n + 1) cl, .slice Ah (n + 1) ch]) (by simp)).frozen 1;refine wp_region_heldE (fun w' => w'.cell? ⟨w.heap.size + 1, 0, none⟩ = some (.slice Al (n + 1) cl) ∧ w'.cell? ⟨w.heap.size + 1, 1, none⟩ = some (.slice Ah (n + 1) ch)) 7 (by kernel_rfl) ⟨m1, m2⟩ (fun hS => ?_);refine zqt 0 (v := ?_) hS rfl (Or.inl ⟨by rfl, ?_⟩) ?_;rotate_left
 ·(intro w hSw; go_simp; try with_reducible rfl)
 try simp only [Act.put, zqa, zqb, zqc, zqd, zqe, zqf]
 refine zqt 1 (v := ?_) hS rfl (Or.inl ⟨by rfl, ?_⟩) ?_;rotate_left
 ·(intro w hSw; go_simp; try with_reducible rfl)
 try simp only [Act.put, zqa, zqb, zqc, zqd, zqe, zqf]
 refine zqt 3 (v := ?_) hS rfl (Or.inl ⟨by rfl, ?_⟩) ?_;rotate_left
 ·(intro w hSw; go_simp; try with_reducible rfl)
 try simp only [Act.put, zqa, zqb, zqc, zqd, zqe, zqf]
 refine zqt 4 (v := ?_) hS rfl (Or.inl ⟨by rfl, ?_⟩) ?_;rotate_left
 ·(intro w hSw; go_simp; try with_reducible rfl)
 try simp only [Act.put, zqa, zqb, zqc, zqd, zqe, zqf]
 refine wpAnyE_one 2 (by kernel_rfl) rfl (fun K hK => ?_)
 go_simp
 go_at_call 77
 (with_reducible refine (HC1.out _ q6.bl).mono ?_)
 rintro e w8 ⟨Gl, cgl, rfl, hgl, hb9⟩;have hglb := q6.bl.size;replace q6 := q6.below hb9;have m1 := q6.is (w.heap.size + 1) 2 46 #[.slice Al (n + 1) cl, .slice Ah (n + 1) ch] (by simp) 0 (by decide) (.slice Al (n + 1) cl) rfl;have m2 := q6.is (w.heap.size + 1) 2 46 #[.slice Al (n + 1) cl, .slice Ah (n + 1) ch] (by simp) 1 (by decide) (.slice Ah (n + 1) ch) rfl;have y1 := (q6.rows (w.heap.size + 1, 46, 2, #[.slice Al (n + 1) cl, .slice Ah (n + 1) ch]) (by simp)).frozen 0;have y2 := (q6.rows (w.heap.size + 1, 46, 2, #[.slice Al (n + 1) cl, .slice Ah (n + 1) ch]) (by simp)).frozen 1;refine hK.out _ _ (fun _ => ⟨m1, m2⟩) (fun hS => ?_);replace hS := hS (by decide);clear hK K
 try simp only [Act.put, zqa, zqb, zqc, zqd, zqe, zqf]
 refine wpAnyE_one 5 (by kernel_rfl) rfl (fun K hK => ?_)
 go_simp
 go_at_call 77
 (with_reducible refine (HC2.out _ q6.bl).mono ?_)
 rintro e w9 ⟨Gh, cgh, rfl, hgh, hb9⟩;have hghb := q6.bl.size;have hb8 := hb9;replace q6 := q6.below hb9;have m1 := q6.is (w.heap.size + 1) 2 46 #[.slice Al (n + 1) cl, .slice Ah (n + 1) ch] (by simp) 0 (by decide) (.slice Al (n + 1) cl) rfl;have m2 := q6.is (w.heap.size + 1) 2 46 #[.slice Al (n + 1) cl, .slice Ah (n + 1) ch] (by simp) 1 (by decide) (.slice Ah (n + 1) ch) rfl;have y1 := (q6.rows (w.heap.size + 1, 46, 2, #[.slice Al (n + 1) cl, .slice Ah (n + 1) ch]) (by simp)).frozen 0;have y2 := (q6.rows (w.heap.size + 1, 46, 2, #[.slice Al (n + 1) cl, .slice Ah (n + 1) ch]) (by simp)).frozen 1;refine hK.out _ _ (fun _ => ⟨m1, m2⟩) (fun hS => ?_);replace hS := hS (by decide);clear hK K
 try simp only [Act.put, zqa, zqb, zqc, zqd, zqe, zqf]
 refine zqt 6 (v := ?_) hS rfl (Or.inl ⟨by rfl, ?_⟩) ?_;rotate_left
 ·(intro w hSw; go_simp; try with_reducible rfl)
 try simp only [Act.put, zqa, zqb, zqc, zqd, zqe, zqf]
 refine wpAnyE_one 7 (by kernel_rfl) rfl (fun K hK => ?_)
 go_simp
 refine hK.out _ _ (fun h => absurd rfl h) (fun _ => ?_);clear hK K;refine wpAnyE_done (by kernel_rfl) ?_ _;obtain ⟨gl, Fl, rfl, ogl, ccl, rl, fl⟩ := hgl (by omega);obtain ⟨gh, Fh, rfl, ogh, cch, rh, fh⟩ := hgh (by omega);have lgl := rl.lt;have hWs : w.heap.size + 1 + 1 + 1 + 1 < W.drew.heap.size := (q0.drew.rows (w.heap.size + 1 + 1 + 1 + 1, 30, 2, #[.int .u64 0, .int .u64 0]) (by simp)).lt;replace rl := rowBelow rl hb9;have i1 := q6.rows (w.heap.size, 24, 2, #[.int .i64 (n : Int), .slice A l.length c]) (by simp);have i2 := q6.rows (w.heap.size + 1, 46, 2, #[.slice Al (n + 1) cl, .slice Ah (n + 1) ch]) (by simp);have i3 := q6.rows (w.heap.size + 1 + 1, 59, 1, #[.string (natB r)]) (by simp);have i4 := q6.rows (w.heap.size + 1 + 1 + 1, 30, 2, #[.int .u64 0, .int .u64 0]) (by simp);have i5 := q6.rows (w.heap.size + 1 + 1 + 1 + 1, 30, 2, #[.int .u64 0, .int .u64 0]) (by simp)
 have d0 : ChAt w ((w9.setCell ⟨w.heap.size + 1, 0, none⟩ (.slice (some ⟨gl, 0, none⟩) (n + 1) cgl)).setCell ⟨w.heap.size + 1, 1, none⟩ (.slice (some ⟨gh, 0, none⟩) (n + 1) cgh)) 24 46 59 30 74 n l.length A c gl cgl gh cgh ⟨r, lo, hi, 0⟩ := by
  refine ⟨(i1.setOther ?_ _).setOther ?_ _, pairRow i2 _ _, ((i3.setOther ?_ _).setOther ?_ _).congr ?_, (i4.setOther ?_ _).setOther ?_ _, ((i5.setOther ?_ _).setOther ?_ _).congr (fun i _ => by rw [show Cs.lo (Ch.mk r lo hi 0).a = 0 from (show Cs.lo 0 = 0 by decide), show Cs.hi (Ch.mk r lo hi 0).a = 0 from (show Cs.hi 0 = 0 by decide)]; rfl), ⟨Fl, (rl.setOther ?_ _).setOther ?_ _, fl⟩, ⟨Fh, (rh.setOther ?_ _).setOther ?_ _, fh⟩, by omega, by omega, ccl, cch, (q6.bl.setCell ?_ _).setCell ?_ _⟩
  case refine_5 =>
   intro i hi;obtain rfl : i = 0 := (by simp only at hi; omega)
   rfl
  all_goals (simp only []; omega)
 clear i1 i2 i3 i4 i5 rl rh fl fh lgl hWs hgl hgh hb8 hb9 q6 q0 HC1 HC2;generalize (w9.setCell ⟨w.heap.size + 1, 0, none⟩ (.slice (some ⟨gl, 0, none⟩) (n + 1) cgl)).setCell ⟨w.heap.size + 1, 1, none⟩ (.slice (some ⟨gh, 0, none⟩) (n + 1) cgh) = W9 at d0 ⊢;have n0 : W9.cell? ⟨w.heap.size, 0, none⟩ = some (.int .i64 (n : Int)) := d0.net.cell (i := 0) (by omega)
 go_wp2
 go_loopw [24] (fun t wr => ∃ v : Nat, v ≤ n + 1 ∧ t = .int .i64 v ∧ ChAt w wr 24 46 59 30 74 n l.length A c gl cgl gh cgh (Ch.run ⟨(n : Int), l⟩ n ⟨r, lo, hi, 0⟩ (v - 1))) (fun t _ => n + 1 - (intOf t).toNat)
 case atStart => exact ⟨0, by omega, rfl, d0⟩
 case round =>
  clear d0 n0;obtain ⟨v, hv1, rfl, d1⟩ := hrel;rcases Nat.lt_or_ge n v with hvn | hvn
  ·obtain rfl : v = n + 1 := by omega
   have b1 : decide (((n + 1 : Nat) : Int) < (n : Int) + 1) = false := decide_eq_false (by omega);have a0 : wr.cell? ⟨w.heap.size + 1 + 1 + 1 + 1, 0, none⟩ = some (.int .u64 (Cs.lo (choiceN ⟨(n : Int), l⟩ n lo hi r) : Int)) := d1.ab.cell (i := 0) (by omega);have a1 : wr.cell? ⟨w.heap.size + 1 + 1 + 1 + 1, 1, none⟩ = some (.int .u64 (Cs.hi (choiceN ⟨(n : Int), l⟩ n lo hi r) : Int)) := d1.ab.cell (i := 1) (by omega);have e0 : wr.cell? ⟨w.heap.size + 1 + 1 + 1, 0, none⟩ = some (.int .u64 0) := d1.res.cell (i := 0) (by omega);have e1 : wr.cell? ⟨w.heap.size + 1 + 1 + 1, 1, none⟩ = some (.int .u64 0) := d1.res.cell (i := 1) (by omega);rw [HZ.out] at a0 a1;have g0 := d1.res.frozen 0;have g1 := d1.res.frozen 1
   go_wp2
   exact ret_set rfl Z rfl (pairRow d1.res _ _) rfl rfl rfl ⟨rfl, (d1.bl.setCell (by simp; omega) _).setCell (by simp; omega) _⟩
  ·have b1 : decide ((v : Int) < (n : Int) + 1) = true := decide_eq_true (by omega);rcases Nat.eq_zero_or_pos v with hv0 | hv0
   ·subst hv0
    go_wp2
    exact ⟨⟨1, by omega, rfl, d1⟩, by simp [intOf]⟩
   ·have b2 : ((v : Int) == 0) = false := by simp; omega
    have hfit := Ch.run_fit (N := ⟨(n : Int), l⟩) (n := n) (s := ⟨r, lo, hi, 0⟩) hW (v - 1);have hrr := Ch.run_r ⟨(n : Int), l⟩ n ⟨r, lo, hi, 0⟩ (v - 1)
    have hst : Ch.run ⟨(n : Int), l⟩ n ⟨r, lo, hi, 0⟩ v = (Ch.run ⟨(n : Int), l⟩ n ⟨r, lo, hi, 0⟩ (v - 1)).step ⟨(n : Int), l⟩ n v := by
     obtain ⟨u, rfl⟩ : ∃ u, v = u + 1 := ⟨v - 1, by omega⟩
     rfl
    obtain ⟨s, hs⟩ : ∃ s, Ch.run ⟨(n : Int), l⟩ n ⟨r, lo, hi, 0⟩ (v - 1) = s := ⟨_, rfl⟩;rw [hs] at hfit hrr hst d1;clear hs;have hfz := hfit.zhi v;have hTs := sum_Sp hv rfl hfz;obtain ⟨T, hT'⟩ : ∃ T, (RP n s.lo (zr s.hi v)).sum ⟨(n : Int), l⟩ = T := ⟨_, rfl⟩;have htt : totN ⟨(n : Int), l⟩ n s.lo (zr s.hi v) = T.1 := congrArg Prod.fst hT';have hcl := d1.cl;have hch := d1.ch;have htot := fun W hN hT hlo hhi => total_fit W ⟨(n : Int), l⟩ A c cgl cgh n s.lo (zr s.hi v) (some ⟨gl, 0, none⟩) (some ⟨gh, 0, none⟩) hN hv rfl hT hin hfz.wt hlo hhi hcl hch T 0 hfz.fit.symm (by rw [if_pos rfl]; exact hT'.symm);rw [hT'] at hTs;have hrn : n8 s.r ≤ 1000000 := Nat.le_trans (n8_mono hrr) (by simp only []; omega);have hTn := hTs.1
    have hsub : ∃ D M, (∀ W, Calls Tryz.prog 54 #[natV s.r, natV T.1] W fun e w' => e = .returned (.tuple #[natV D, .bool M]) ∧ Below W.heap.size W w') ∧ s.step ⟨(n : Int), l⟩ n v = if M = true then ⟨D, zr s.lo v, s.hi, s.a ||| 2 ^ (v - 1)⟩ else ⟨s.r, s.lo, zr s.hi v, s.a⟩ := by
     rcases Nat.lt_or_ge s.r T.1 with h | h
     ·refine ⟨0, false, fun W => sub_lt W s.r T.1 hrn (by omega) h, ?_⟩;unfold Ch.step;rw [htt, if_neg (by omega), if_neg (by decide)]
     ·refine ⟨s.r - T.1, true, fun W => sub_ge W s.r T.1 hrn (by omega) h, ?_⟩;unfold Ch.step;rw [htt, if_pos h, if_pos rfl]
    obtain ⟨D, M, hsb, hst2⟩ := hsub;rw [hst2] at hst;have hLl := hfit.wt.ll;have hLh := hfit.wt.lh;have HST := zqh hst;have HLL := zqh hLl;have HLH := zqh hLh;have HSB := zqh hsb;have HTOT := zqh htot;clear hst hst2 hsb htot htt hT' hfz hfit hTs hrn hTn hrr hLl hLh HZ;obtain ⟨Tn, Td⟩ := T;obtain ⟨sr, slo, shi, sa⟩ := s;simp only at HST HLL HLH HSB HTOT hcl hch;have hcells := d1.high.cells (by omega) v (by omega);simp only at hcells;obtain ⟨p, hp⟩ : ∃ p, shi.getD v (0, 0) = p := ⟨_, rfl⟩;rw [hp] at hcells;have hbk := set_back shi v;rw [hp] at hbk;have HBK := zqh hbk;clear hp hbk;obtain ⟨x0, x1, y0, y1⟩ := hcells;obtain ⟨pn, pd⟩ := p;simp only at x0 x1;have n0 : wr.cell? ⟨w.heap.size, 0, none⟩ = some (.int .i64 (n : Int)) := d1.net.cell (i := 0) (by omega);have n1 : wr.cell? ⟨w.heap.size, 1, none⟩ = some (.slice A l.length c) := d1.net.cell (i := 1) (by omega);have n2 : wr.cell? ⟨w.heap.size + 1, 0, none⟩ = some (.slice (some ⟨gl, 0, none⟩) (n + 1) cgl) := d1.wts.cell (i := 0) (by omega);have n3 : wr.cell? ⟨w.heap.size + 1, 1, none⟩ = some (.slice (some ⟨gh, 0, none⟩) (n + 1) cgh) := d1.wts.cell (i := 1) (by omega)
    have i1 : (0 : Int) ≤ (v : Int) := by omega
    have i2 : (v : Int) < (n : Int) + 1 := by omega
    have i3 : (v : Int) < ((n + 1 : Nat) : Int) := by omega
    have i4 : v < n + 1 := by omega
    have s5 := d1.high.lt;have s6 := d1.og;have s7 := d1.oh
    have s4 : gl < wr.heap.size := by omega
    have s0 : w.heap.size < wr.heap.size := by omega
    have s1 : w.heap.size + 1 < wr.heap.size := by omega
    have s2 : w.heap.size + 1 + 1 < wr.heap.size := by omega
    have hz0 := natB_zero
    have d2 : ∀ W, W = (wr.setCell ⟨gh, v * 2, none⟩ (.string ⟨#[]⟩)).setCell ⟨gh, v * 2 + 1, none⟩ (.string ⟨#[]⟩) → ChAt w W 24 46 59 30 74 n l.length A c gl cgl gh cgh ⟨sr, slo, zr shi v, sa⟩ := by
     rintro W rfl;have := d1.setHi (0, 0) v (by omega) HLH.out;rw [hz0] at this;exact this
    have D2 := zqh d2;have HZ0 := zqh hz0;clear d2 hz0
    go_wp2_with fail
    have e2 := D2.out _ rfl;have q2 := (Bag.start e2.bl).new #[.string (natB pn), .string (natB pd)] 74 _ 2 rfl rfl;have e3 := e2.below ((zqr _ _).alloc (zqn _) (.cells #[.string (natB pn), .string (natB pd)] 74))
    have e6 : ((wr.setCell ⟨gh, v * 2, none⟩ (.string ⟨#[]⟩)).setCell ⟨gh, v * 2 + 1, none⟩ (.string ⟨#[]⟩)).heap.size = wr.heap.size := by rw [size_setCell, size_setCell]
    rw [e6] at q2;clear e2 e6 D2;generalize ((wr.setCell ⟨gh, v * 2, none⟩ (.string ⟨#[]⟩)).setCell ⟨gh, v * 2 + 1, none⟩ (.string ⟨#[]⟩)).alloc (.cells #[.string (natB pn), .string (natB pd)] 74) = W3 at e3 q2 ⊢;have hfit1 := fun (h : n + 1 ≤ cgl) => e3.low.rd (by omega)
    (with_reducible refine (HTOT.out _ ((hN.below e3.bl).more e3.bl.size) (hT.below e3.bl) (e3.low.rd (by omega)) (e3.high.rd (by omega))).mono ?_)
    rintro e w4 ⟨rfl, hb4⟩;replace e3 := e3.below hb4;have r9 := rowBelow q2.row0 hb4;clear q2 hb4 n0 n1 n2 n3 x0 x1 y0 y1 hfit1
    go_wp2_with fail
    have e4 := e3.below ((zqr _ _).alloc (zqn _) (.cells #[.string (natB Tn), .string (natB Td)] 74))
    have q0 := ((Bag.start e4.bl).cons (arrNew w4 #[.string (natB Tn), .string (natB Td)] 74 w4.heap.size 2 rfl rfl)).cons (a := #[.string (natB sr)]) (e4.rb.congr (fun i hi => by
     obtain rfl : i = 0 := by omega
     rfl))
    replace r9 := r9.alloc (.cells #[.string (natB Tn), .string (natB Td)] 74);clear e3;generalize w4.alloc (.cells #[.string (natB Tn), .string (natB Td)] 74) = W4 at e4 q0 r9 ⊢
    go_cut [12, 13] from 45 to 51 (fun p x wx => ∃ gy, p = .pointer (some ⟨gy, 0, none⟩) ∧ x = .bool M ∧ Bag w W4 W4.heap.size ((gy, 59, 1, #[.string (natB D)]) :: [(w.heap.size + 1 + 1, 59, 1, #[.string (natB sr)]), (w4.heap.size, 74, 2, #[.string (natB Tn), .string (natB Td)])]) wx)
    case first =>
     have q6 := q0.drew;have hz := (q0.new #[.string ⟨#[]⟩] 59 _ 1 rfl rfl).row0.drew;have hX0 := q0.fresh;have m1 := q6.is (w.heap.size + 1 + 1) 1 59 #[.string (natB sr)] (by simp) 0 (by decide) (.string (natB sr)) rfl;have m2 := q6.is (w4.heap.size) 2 74 #[.string (natB Tn), .string (natB Td)] (by simp) 0 (by decide) (.string (natB Tn)) rfl;have m3 := q6.is (w4.heap.size) 2 74 #[.string (natB Tn), .string (natB Td)] (by simp) 1 (by decide) (.string (natB Td)) rfl
     go_region_held3 (fun w' => w'.cell? ⟨w.heap.size + 1 + 1, 0, none⟩ = some (.string (natB sr)) ∧ w'.cell? ⟨w4.heap.size, 0, none⟩ = some (.string (natB Tn)) ∧ w'.cell? ⟨w4.heap.size, 1, none⟩ = some (.string (natB Td)))
      (first | exact ⟨m1, m2, m3⟩ | exact ⟨(World.cell?_setCell_far _ _ _ _ N1.out).trans m1, (World.cell?_setCell_far _ _ _ _ N2.out).trans m2, (World.cell?_setCell_far _ _ _ _ N3.out).trans m3⟩ | exact ⟨(q0.alloc _).drew.is (w.heap.size + 1 + 1) 1 59 #[.string (natB sr)] (by simp) 0 (by decide) (.string (natB sr)) rfl, (q0.alloc _).drew.is (w4.heap.size) 2 74 #[.string (natB Tn), .string (natB Td)] (by simp) 0 (by decide) (.string (natB Tn)) rfl, (q0.alloc _).drew.is (w4.heap.size) 2 74 #[.string (natB Tn), .string (natB Td)] (by simp) 1 (by decide) (.string (natB Td)) rfl⟩ | exact ⟨(q6.alloc _).is (w.heap.size + 1 + 1) 1 59 #[.string (natB sr)] (by simp) 0 (by decide) (.string (natB sr)) rfl, (q6.alloc _).is (w4.heap.size) 2 74 #[.string (natB Tn), .string (natB Td)] (by simp) 0 (by decide) (.string (natB Tn)) rfl, (q6.alloc _).is (w4.heap.size) 2 74 #[.string (natB Tn), .string (natB Td)] (by simp) 1 (by decide) (.string (natB Td)) rfl⟩ | go_keep)
      (first
        | (go_simp
           go_at_call 51
           (with_reducible first | refine (num_any _ Tn Td).mono ?_)
           rintro e w9 ⟨rfl, hb9⟩
           first
            | (replace q6 := q6.below hb9
               try replace hz6 := rowBelow hz6 hb9)
            | (have hz6 := rowBelow hz hb9
               have hX6 := hX0;have N1 := zqh (Ne.symm (hX6.2 (w.heap.size + 1 + 1, 59, 1, #[.string (natB sr)]) (by simp)));have N2 := zqh (Ne.symm (hX6.2 (w4.heap.size, 74, 2, #[.string (natB Tn), .string (natB Td)]) (by simp)));have N3 := zqh (Ne.symm (hX6.2 (w4.heap.size, 74, 2, #[.string (natB Tn), .string (natB Td)]) (by simp)))
               replace q6 := (q0.alloc _).drew.below hb9)
            | (have hX6 := q6.fresh
               have N1 := zqh (Ne.symm (hX6.2 (w.heap.size + 1 + 1, 59, 1, #[.string (natB sr)]) (by simp)));have N2 := zqh (Ne.symm (hX6.2 (w4.heap.size, 74, 2, #[.string (natB Tn), .string (natB Td)]) (by simp)));have N3 := zqh (Ne.symm (hX6.2 (w4.heap.size, 74, 2, #[.string (natB Tn), .string (natB Td)]) (by simp)));have hz6 := rowBelow (arrNew _ #[.string ⟨#[]⟩] 59 _ 1 rfl rfl) hb9
               replace q6 := (q6.alloc _).below hb9)
           have m1 := q6.is (w.heap.size + 1 + 1) 1 59 #[.string (natB sr)] (by simp) 0 (by decide) (.string (natB sr)) rfl;have m2 := q6.is (w4.heap.size) 2 74 #[.string (natB Tn), .string (natB Td)] (by simp) 0 (by decide) (.string (natB Tn)) rfl;have m3 := q6.is (w4.heap.size) 2 74 #[.string (natB Tn), .string (natB Td)] (by simp) 1 (by decide) (.string (natB Td)) rfl
           try have y0 := hz6.frozen 0
           try have z0 := hz6.cell (i := 0) (by omega))
        | (go_simp
           go_at_call 54
           (with_reducible first | refine (HSB.out _).mono ?_)
           rintro e w9 ⟨rfl, hb9⟩
           first
            | (replace q6 := q6.below hb9
               try replace hz6 := rowBelow hz6 hb9)
            | (have hz6 := rowBelow hz hb9
               have hX6 := hX0;have N1 := zqh (Ne.symm (hX6.2 (w.heap.size + 1 + 1, 59, 1, #[.string (natB sr)]) (by simp)));have N2 := zqh (Ne.symm (hX6.2 (w4.heap.size, 74, 2, #[.string (natB Tn), .string (natB Td)]) (by simp)));have N3 := zqh (Ne.symm (hX6.2 (w4.heap.size, 74, 2, #[.string (natB Tn), .string (natB Td)]) (by simp)))
               replace q6 := (q0.alloc _).drew.below hb9)
            | (have hX6 := q6.fresh
               have N1 := zqh (Ne.symm (hX6.2 (w.heap.size + 1 + 1, 59, 1, #[.string (natB sr)]) (by simp)));have N2 := zqh (Ne.symm (hX6.2 (w4.heap.size, 74, 2, #[.string (natB Tn), .string (natB Td)]) (by simp)));have N3 := zqh (Ne.symm (hX6.2 (w4.heap.size, 74, 2, #[.string (natB Tn), .string (natB Td)]) (by simp)));have hz6 := rowBelow (arrNew _ #[.string ⟨#[]⟩] 59 _ 1 rfl rfl) hb9
               replace q6 := (q6.alloc _).below hb9)
           have m1 := q6.is (w.heap.size + 1 + 1) 1 59 #[.string (natB sr)] (by simp) 0 (by decide) (.string (natB sr)) rfl;have m2 := q6.is (w4.heap.size) 2 74 #[.string (natB Tn), .string (natB Td)] (by simp) 0 (by decide) (.string (natB Tn)) rfl;have m3 := q6.is (w4.heap.size) 2 74 #[.string (natB Tn), .string (natB Td)] (by simp) 1 (by decide) (.string (natB Td)) rfl
           try have y0 := hz6.frozen 0
           try have z0 := hz6.cell (i := 0) (by omega)))
     all_goals
      try go_wp2
      go_meet
      case rel =>
       first
        | exact ⟨_, rfl, rfl, q6.new _ _ _ _ rfl rfl⟩
        | exact ⟨_, rfl, rfl, (q6.other hX6.1 hX6.2 _ _).cons (oneRow hz6 _)⟩
    case rest =>
     obtain ⟨gy, rfl, rfl, q5⟩ := hcut;have e5 := e4.below q5.base;have r8 := rowBelow r9 q5.base;have ly := q5.lt0;have y1 := q5.is0 0 (by decide) (.string (natB D)) rfl;clear e4 r9 q0;cases M
     ·go_wp2_with fail
      have e6 := HST.out;rw [if_neg (by decide)] at e6;exact ⟨⟨v + 1, by omega, by go_num, by rw [show v + 1 - 1 = v from rfl, e6]; exact e5⟩, by simp [intOf]; omega⟩
     ·go_wp2_with fail
      have hhc := e5.high.cells (by omega) v (by omega);have hlc := e5.low.cells (by omega) v (by omega);simp only at hhc hlc;obtain ⟨u1, u2, u3, u4⟩ := hhc;obtain ⟨t1, t2, t3, t4⟩ := hlc;have n2 : wc.cell? ⟨w.heap.size + 1, 0, none⟩ = some (.slice (some ⟨gl, 0, none⟩) (n + 1) cgl) := e5.wts.cell (i := 0) (by omega);have n3 : wc.cell? ⟨w.heap.size + 1, 1, none⟩ = some (.slice (some ⟨gh, 0, none⟩) (n + 1) cgh) := e5.wts.cell (i := 1) (by omega);have n4 := boxCell e5.rb;have n5 := e5.rb.frozen 0;have p1 : wc.cell? ⟨wr.heap.size, 0, none⟩ = some (.string (natB pn)) := r8.cell (i := 0) (by omega);have p2 : wc.cell? ⟨wr.heap.size, 1, none⟩ = some (.string (natB pd)) := r8.cell (i := 1) (by omega)
      go_region
      all_goals
       have e6 := ((e5.setR D).setHi (pn, pd) v (by omega) (by simp only [zr_len]; exact HLH.out)).setLo (0, 0) v (by omega) HLL.out;simp only at e6;rw [HBK.out, HZ0.out] at e6;replace e6 := e6.below (belowDrewN (zqr _ _) 1)
       have e7 : ∀ W, W = (((((wc.setCell ⟨w.heap.size + 1 + 1, 0, none⟩ (.string (natB D))).setCell ⟨gh, v * 2, none⟩ (.string (natB pn))).setCell ⟨gh, v * 2 + 1, none⟩ (.string (natB pd))).setCell ⟨gl, v * 2, none⟩ (.string ⟨#[]⟩)).setCell ⟨gl, v * 2 + 1, none⟩ (.string ⟨#[]⟩)).drew →
         ChAt w W 24 46 59 30 74 n l.length A c gl cgl gh cgh ⟨D, zr slo v, shi, sa⟩ := fun W hW => by rw [hW]; exact e6
       clear e6 u1 u2 u3 u4 t1 t2 t3 t4 n2 n3 n4 n5 p1 p2 e5 r8 q5 ly y1;generalize (((((wc.setCell ⟨w.heap.size + 1 + 1, 0, none⟩ (.string (natB D))).setCell ⟨gh, v * 2, none⟩ (.string (natB pn))).setCell ⟨gh, v * 2 + 1, none⟩ (.string (natB pd))).setCell ⟨gl, v * 2, none⟩ (.string ⟨#[]⟩)).setCell ⟨gl, v * 2 + 1, none⟩ (.string ⟨#[]⟩)).drew = W6 at e7 ⊢;have e8 := e7 W6 rfl;clear e7;have a0 : W6.cell? ⟨w.heap.size + 1 + 1 + 1 + 1, 0, none⟩ = some (.int .u64 (Cs.lo sa : Int)) := e8.ab.cell (i := 0) (by omega);have a1 : W6.cell? ⟨w.heap.size + 1 + 1 + 1 + 1, 1, none⟩ = some (.int .u64 (Cs.hi sa : Int)) := e8.ab.cell (i := 1) (by omega)
       have hw : wth sa (v : Int) = sa ||| 2 ^ (v - 1) := by unfold wth; rw [if_pos ⟨by omega, by omega⟩, Int.toNat_natCast]
       have hwi := fun W => with_any W sa (v : Int);rw [hw] at hwi;have HWI := zqh hwi;clear hw hwi
       go_wp2_with (
        go_at_call 103
        (with_reducible refine (HWI.out _).mono ?_)
        rintro e w9 ⟨rfl, hb9⟩;replace e8 := e8.below hb9;have z0 : w9.cell? ⟨w.heap.size + 1 + 1 + 1 + 1, 0, none⟩ = some (.int .u64 (Cs.lo sa : Int)) := e8.ab.cell (i := 0) (by omega);have z1 : w9.cell? ⟨w.heap.size + 1 + 1 + 1 + 1, 1, none⟩ = some (.int .u64 (Cs.hi sa : Int)) := e8.ab.cell (i := 1) (by omega);have z2 := e8.ab.frozen 0;have z3 := e8.ab.frozen 1
        clear hb9)
       have e9 := e8.setA (sa ||| 2 ^ (v - 1));have e6 := HST.out;rw [if_pos trivial] at e6;exact ⟨⟨v + 1, by omega, by go_num, by rw [show v + 1 - 1 = v from rfl, e6]; exact e9⟩, by simp [intOf]; omega⟩
end Go.Proofs.YtgnobohfnhpkdaaGreatDoor
end
