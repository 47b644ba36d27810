import Derived.Test.YtoljkoifgnmbgaaGreatDoorVl
import Derived.Test.YtoljkoifgnmbgaaGreatDoorKl
import Derived.Test.YtoljkoifgnmbgaaGreatDoorVp
set_option linter.unusedSimpArgs false
set_option linter.unusedVariables false
section
open Go Go.RowKit Cs
namespace Go.Proofs.YtoljkoifgnmbgaaGreatDoor
structure OneAt (w : World) (N : Nt) (A : Option Addr) (c b0 : Nat) (W : World) : Prop where
 bl : Below w.heap.size w W
 nt : NtAt W W.heap.size A N.l
 rb : W.rowIs b0 24 2 (arrF #[.int .i64 N.n, .slice A N.l.length c])
section
variable {w W W' : World} {N : Nt} {A : Option Addr} {c b0 : Nat}
theorem OneAt.below (h : OneAt w N A c b0 W) (hb : Below W.heap.size W W') : OneAt w N A c b0 W' :=
 ⟨zqx h.bl hb h.bl.size, (h.nt.below hb).more hb.size, rowBelow h.rb hb⟩
theorem OneAt.cells (h : OneAt w N A c b0 W) : W.cell? ⟨b0, 0, none⟩ = some (.int .i64 N.n) ∧ W.cell? ⟨b0, 1, none⟩ = some (.slice A N.l.length c) :=
 ⟨h.rb.cell (i := 0) (by decide), h.rb.cell (i := 1) (by decide)⟩
theorem oneNew (w : World) (N : Nt) (A : Option Addr) (c : Nat) (hN : NtAt w w.heap.size A N.l) : OneAt w N A c w.heap.size (w.alloc (.cells #[.int .i64 N.n, .slice A N.l.length c] 24)) :=
 have hb := (Below.refl w.heap.size w).alloc (zqn _) (.cells #[.int .i64 N.n, .slice A N.l.length c] 24)
 ⟨hb, (hN.below hb).more hb.size, arrNew w _ _ _ _ rfl rfl⟩
end
abbrev Bx := Nat × TypeId × Nat × (Nat → Value)
structure Ly (w : World) (E : Nat) (g : Sg) (N : Nt) (n : Nat) (lo hi : List Pr) (tv : Value) (T : List Int) (k : Int) (B : List Bx) (W : World) : Prop where
 lv : Lv w E g N n lo hi tv T k W
 bx : ∀ b ∈ B, W.rowIs b.1 b.2.1 b.2.2.1 b.2.2.2 ∧ b.1 ∉ g.all tv
section
variable {w W W' : World} {E : Nat} {g : Sg} {N : Nt} {n : Nat} {lo hi : List Pr} {tv : Value} {T : List Int} {k : Int} {B : List Bx}
theorem Ly.below (h : Ly w E g N n lo hi tv T k B W) (hb : Below W.heap.size W W') : Ly w E g N n lo hi tv T k B W' :=
 ⟨h.lv.below hb, fun b hm => ⟨rowBelow (h.bx b hm).1 hb, (h.bx b hm).2⟩⟩
theorem Ly.allLt (h : Ly w E g N n lo hi tv T k B W) : ∀ x ∈ g.all tv, x < W.heap.size := by
 intro x hx;have hs := h.lv.ses;unfold Cs.Sg.all at hx;rcases List.mem_append.1 hx with hx | hx
 ·rcases List.mem_cons.1 hx with rfl | hx
  ·exact hs.lt
  ·simp only [Sg.rows, List.mem_cons, List.not_mem_nil, or_false] at hx;rcases hx with rfl | rfl | rfl | rfl | rfl | rfl
   ·exact hs.c1.lt
   ·exact hs.c2.lt
   ·exact hs.c3.lt
   ·exact hs.p1.lt
   ·exact hs.p2.lt
   ·exact hs.p3.lt
 ·exact (hs.tr.lt x (by simpa using hx)).2
theorem Ly.ofLv {lo hi : List Pr} (h : Lv w E g N n lo hi tv T k W) : Ly w E g N n lo hi tv T k [] W := ⟨h, fun b hb => by cases hb⟩
theorem Ly.add {lo hi : List Pr} (h : Ly w E g N n lo hi tv T k B W) (hb : Below W.heap.size W W') (x m : Nat) (t : TypeId) (f : Nat → Value) (hx : W.heap.size ≤ x) (hr : W'.rowIs x t m f) : Ly w E g N n lo hi tv T k ((x, t, m, f) :: B) W' :=
 ⟨h.lv.below hb, fun b hm => by
   rcases List.mem_cons.1 hm with rfl | hm
   ·exact ⟨hr, fun h2 => absurd (h.allLt x h2) (by omega)⟩
   ·exact (h.below hb).bx b hm⟩
theorem Ly.keep {tv' : Value} {T' : List Int} {k' : Int} (h : Ly w E g N n lo hi tv T k B W) (hl : Lv w E g N n lo hi tv' T' k' W') (hk : Keep (g.all tv) W W') (ht : tv'.ownBlock = tv.ownBlock ∨ ∃ X, tv'.ownBlock = some X ∧ W.heap.size ≤ X) : Ly w E g N n lo hi tv' T' k' B W' :=
 ⟨hl, fun b hb => by
   obtain ⟨h1, h2⟩ := h.bx b hb;refine ⟨h1.of_block (hk.block b.1 h1.lt h2), fun hm => ?_⟩;unfold Cs.Sg.all at hm h2;rcases List.mem_append.1 hm with h3 | h3
   ·exact h2 (List.mem_append_left _ h3)
   ·rcases ht with e | ⟨X, e, hX⟩
    ·rw [e] at h3;exact h2 (List.mem_append_right _ h3)
    ·rw [e] at h3
     have : b.1 = X := by simpa [eq_comm] using h3
     have := h1.lt
     omega⟩
theorem Ly.push (h : Ly w E g N n lo hi tv T k B W) (ok : SesOk N n lo hi T w.heap.size) (hT : Tab w) (hlen : T.length < 1000000) (l : Int) (hb : litOk l N.n = true) (ht1 : l ∉ T) (ht2 : -l ∉ T) :
  Calls Tryz.prog 22 #[.pointer (some ⟨g.b, 0, none⟩), .int .i64 l] W fun e w' => e = .returned (.int .i64 0) ∧ ∃ tv', Ly w E g N n lo hi tv' (T ++ [l]) (tch N l.natAbs : Nat) B w' := by
 refine (push_ok l h.lv.ses ok (hT.below h.lv.bl) hlen hb ht1 ht2).mono ?_;rintro e w' ⟨rfl, tv', q, kp, ht⟩;exact ⟨rfl, tv', h.keep ⟨q, h.lv.bl.trans (h.lv.ses.keepBelow kp)⟩ kp ht⟩
theorem Ly.pop {l : Int} (h : Ly w E g N n lo hi tv (T ++ [l]) k B W) (ok : SesOk N n lo hi (T ++ [l]) w.heap.size) (hT : Tab w) :
  Calls Tryz.prog 20 #[.pointer (some ⟨g.b, 0, none⟩)] W fun e w' => e = .returned (.int .i64 0) ∧ ∃ tv', Ly w E g N n lo hi tv' T (tch N l.natAbs : Nat) B w' := by
 refine (pop_ok l h.lv.ses ok (hT.below h.lv.bl)).mono ?_;rintro e w' ⟨rfl, tv', q, kp, ht⟩;exact ⟨rfl, tv', h.keep ⟨q, h.lv.bl.trans (h.lv.ses.keepBelow kp)⟩ kp (Or.inl ht)⟩
end
end Go.Proofs.YtoljkoifgnmbgaaGreatDoor
end
section
open Go Go.RowKit Cs
namespace Cs
def pushE (m : Int) (T : List Int) (l : Int) : Int := if litOk l m = true then (if l ∈ T ∨ -l ∈ T then 4 else 0) else 1
def pushT (m : Int) (T : List Int) (l : Int) : List Int := if litOk l m = true then (if l ∈ T ∨ -l ∈ T then T else T ++ [l]) else T
def popE (T : List Int) : Int := if T.length = 0 then 8 else 0
def actT (m : Int) (T : List Int) (l : Int) : List Int := if l = 0 then T.dropLast else pushT m T l
def actsT (m : Int) (L : List Int) : List Int := L.foldl (actT m) []
theorem actsT_succ (m : Int) (L : List Int) (k : Nat) (hk : k < L.length) : actsT m (L.take (k + 1)) = actT m (actsT m (L.take k)) (L.getD k 0) := by
 unfold actsT;rw [List.take_add_one, List.foldl_append, List.getD_eq_getElem?_getD, List.getElem?_eq_getElem hk]
 rfl
theorem nodup_len : ∀ (n : Nat) (l : List Nat), l.Nodup → (∀ x ∈ l, x < n) → l.length ≤ n
 | 0, l, _, h => by
   cases l with
   | nil => simp
   | cons a l => exact absurd (h a (by simp)) (by omega)
 | n + 1, l, hn, h => by
   have h1 := nodup_len n (l.erase n) (hn.erase n) (fun x hx => by
    have h2 := (hn.mem_erase_iff).1 hx;have h3 := h x h2.2;have h4 := h2.1
    omega)
   rw [List.length_erase] at h1
   split at h1 <;> omega
theorem TOk.len {n : Nat} {T : List Int} (h : TOk n T) : T.length ≤ n := by
 have h1 := nodup_len (n + 1) (0 :: T.map Int.natAbs) (List.nodup_cons.2 ⟨fun hm => by
  obtain ⟨z, hz, e⟩ := List.mem_map.1 hm;have := (h.rng z hz).1
  omega, h.nd⟩) (fun x hx => by
  rcases List.mem_cons.1 hx with rfl | hx
  ·omega
  ·obtain ⟨z, hz, rfl⟩ := List.mem_map.1 hx;have := (h.rng z hz).2
   omega)
 simp at h1;exact h1
theorem TOk.drop {n : Nat} {T : List Int} (h : TOk n T) : TOk n T.dropLast := by
 rcases List.eq_nil_or_concat T with rfl | ⟨S, l, rfl⟩
 ·exact h
 ·rw [List.concat_eq_append] at h ⊢;rw [List.dropLast_concat];exact h.init
theorem lit_rng {n : Nat} {m l : Int} (hm : m = (n : Int)) (hn : n ≤ 128) (h : litOk l m = true) : 1 ≤ l.natAbs ∧ l.natAbs ≤ n := Go.Proofs.YtoljkoifgnmbgaaGreatDoor.lit_range h hm hn
theorem TOk.push {n : Nat} {m : Int} {T : List Int} {l : Int} (hm : m = (n : Int)) (hn : n ≤ 128) (h : TOk n T) : TOk n (pushT m T l) := by
 unfold pushT;split
 ·rename_i hl;obtain ⟨h1, h2⟩ := lit_rng hm hn hl;split
  ·exact h
  ·rename_i hT;exact h.snoc h1 h2 (fun h3 => hT (Or.inl h3)) (fun h3 => hT (Or.inr h3))
 ·exact h
theorem TOk.act {n : Nat} {m : Int} {T : List Int} {l : Int} (hm : m = (n : Int)) (hn : n ≤ 128) (h : TOk n T) : TOk n (actT m T l) := by
 unfold actT;split
 ·exact h.drop
 ·exact h.push hm hn
theorem TOk.acts {n : Nat} {m : Int} (hm : m = (n : Int)) (hn : n ≤ 128) (L : List Int) : TOk n (actsT m L) := by
 have : ∀ (L : List Int) T, TOk n T → TOk n (L.foldl (actT m) T) := fun L => by
  induction L with
  | nil => intro T h; exact h
  | cons x L ih => intro T h; exact ih _ (h.act hm hn)
 exact this L [] TOk.nil
end Cs
namespace Go.Proofs.YtoljkoifgnmbgaaGreatDoor
theorem SesOk.at {N : Nt} {n : Nat} {lo hi : List Pr} {S T : List Int} {D : Nat} (h : SesOk N n lo hi S D) (ht : TOk n T) : SesOk N n lo hi T D :=
 ⟨h.hv, h.hd, h.hs, h.hn, h.wt, h.hb, ht, by have := ht.len; have := vn_le h.hv h.hn; omega, h.tb⟩
section
variable {w W W' : World} {E : Nat} {g : Sg} {N : Nt} {n : Nat} {lo hi : List Pr} {tv : Value} {T : List Int} {k : Int} {B : List Bx}
theorem Ly.push_any (h : Ly w E g N n lo hi tv T k B W) (ok : SesOk N n lo hi T w.heap.size) (hT : Tab w) (l : Int) (h1 : -9223372036854775808 ≤ l) (h2 : l ≤ 9223372036854775807) :
  Calls Tryz.prog 22 #[.pointer (some ⟨g.b, 0, none⟩), .int .i64 l] W fun e w' => e = .returned (.int .i64 (pushE N.n T l)) ∧ ∃ tv' k', Ly w E g N n lo hi tv' (pushT N.n T l) k' B w' := by
 have hlen := ok.tk.len;have hn2 := vn_le ok.hv ok.hn;unfold pushE pushT;by_cases hb : litOk l N.n = true
 ·rw [if_pos hb, if_pos hb];by_cases ht : l ∈ T ∨ -l ∈ T
  ·rw [if_pos ht, if_pos ht];refine (push_twice l h1 h2 h.lv.ses ok.hv ok.hn hb (by omega) ht).mono ?_;rintro e w' ⟨rfl, hb9⟩;exact ⟨rfl, tv, k, h.below hb9⟩
  ·rw [if_neg ht, if_neg ht];refine (h.push ok hT (by omega) l hb (fun h3 => ht (Or.inl h3)) (fun h3 => ht (Or.inr h3))).mono ?_;rintro e w' ⟨rfl, tv', hy⟩;exact ⟨rfl, tv', _, hy⟩
 ·rw [if_neg hb, if_neg hb];refine (push_arg l h1 h2 h.lv.ses ok.hv (by simpa using hb)).mono ?_;rintro e w' ⟨rfl, rfl⟩;exact ⟨rfl, tv, k, h⟩
theorem Ly.pop_any (h : Ly w E g N n lo hi tv T k B W) (ok : SesOk N n lo hi T w.heap.size) (hT : Tab w) :
  Calls Tryz.prog 20 #[.pointer (some ⟨g.b, 0, none⟩)] W fun e w' => e = .returned (.int .i64 (popE T)) ∧ ∃ tv' k', Ly w E g N n lo hi tv' T.dropLast k' B w' := by
 rcases List.eq_nil_or_concat T with rfl | ⟨S, l, rfl⟩
 ·refine (pop_none h.lv.ses ok.hv).mono ?_;rintro e w' ⟨rfl, rfl⟩;exact ⟨rfl, tv, k, h⟩
 ·rw [List.concat_eq_append] at h ok ⊢;rw [List.dropLast_concat];refine (Ly.pop h ok hT).mono ?_;rintro e w' ⟨rfl, tv', hy⟩;exact ⟨by unfold popE; rw [if_neg (by simp)], tv', _, hy⟩
theorem SsAt.stay {D : Nat} {C1 C2 C3 : List Nat} {P1 P2 P3 : List Pr} (h : SsAt W D E g N n lo hi tv T k C1 C2 C3 P1 P2 P3) (hs : W.heap.size ≤ W'.heap.size) (hb : ∀ x, D ≤ x → x < W.heap.size → W'.heap[x]? = W.heap[x]?) : SsAt W' D E g N n lo hi tv T k C1 C2 C3 P1 P2 P3 := by
 have hE := h.ok.rE;have hDE : D ≤ E := Nat.le_trans h.ok.bD (Nat.le_of_lt h.ok.bE);have hr : ∀ x ∈ g.rows, x < W.heap.size → W'.heap[x]? = W.heap[x]? := fun x hx hl => hb x (Nat.le_trans hDE (hE x hx)) hl
 refine ⟨h.row.of_block (hb _ h.ok.bD h.row.lt), h.ro.go hs (fun x h1 h2 _ => hb x h1 (Nat.lt_of_lt_of_le h2 h.eU)), h.c1.of_block (hr _ (by simp [Sg.rows]) h.c1.lt), h.c2.of_block (hr _ (by simp [Sg.rows]) h.c2.lt), h.c3.of_block (hr _ (by simp [Sg.rows]) h.c3.lt),
  h.p1.of_block (hr _ (by simp [Sg.rows]) h.p1.lt), h.p2.of_block (hr _ (by simp [Sg.rows]) h.p2.lt), h.p3.of_block (hr _ (by simp [Sg.rows]) h.p3.lt), ?_, h.ok, h.tn, Nat.le_trans h.eU hs, h.l1, h.l2, h.l3, h.q1, h.q2, h.q3⟩
 obtain ⟨h1, h2⟩ := h.tr;refine ⟨h1, ?_⟩;rcases h2 with ⟨hv, h0⟩ | ⟨b, cap, cur, hv, hb1, hc, hrest⟩
 ·exact Or.inl ⟨hv, h0⟩
 ·exact Or.inr ⟨b, cap, cur, hv, hb1, (hb b (by omega) (Array.getElem?_eq_some_iff.1 hc).1).trans hc, hrest⟩
end
end Go.Proofs.YtoljkoifgnmbgaaGreatDoor
end
section
open Go Go.RowKit Cs
namespace Go.Proofs.YtoljkoifgnmbgaaGreatDoor
theorem okT_lt {s : ByteArray} {q : Rat} (h : rdO s = some q) (hs : s.size ≤ 9) : qn q < 10 ^ 9 ∧ q.den < 10 ^ 9 := by
 obtain ⟨h0, e, _, _⟩ := rdO_spec h;unfold qtext at e;by_cases hd : q.den = 1
 ·rw [if_pos hd] at e;rw [e] at hs;exact ⟨dec_lt _ _ hs, by rw [hd]; decide⟩
 ·rw [if_neg hd] at e
  have : s.size = (dec (qn q)).size + 1 + (dec q.den).size := by rw [e, ByteArray.size_append, ByteArray.size_append]; rfl
  exact ⟨dec_lt _ _ (by omega), dec_lt _ _ (by omega)⟩
theorem n8_nine {V : Nat} (h : V < 10 ^ 9) : n8 V ≤ 4 := (n8_le 4 V).2 (Nat.lt_of_lt_of_le h (by decide))
theorem okL_few {L : List ByteArray} (h : okL L L.length) (k : Nat) : Lp ((prL L).getD k (0, 0)) ∧ n8 ((prL L).getD k (0, 0)).1 ≤ 4 ∧ n8 ((prL L).getD k (0, 0)).2 ≤ 4 := by
 by_cases hk : k < L.length
 ·rw [prL_get L k hk];obtain ⟨⟨q, hq⟩, hs⟩ := h k hk;obtain ⟨h1, h2⟩ := okT_lt hq hs;have e : prT (L.getD k ⟨#[]⟩) = (qn q, q.den) := prT_of hq rfl;rw [e];exact ⟨Lp.pq (rdO_spec hq).1, n8_nine h1, n8_nine h2⟩
 ·have : (prL L).getD k (0, 0) = (0, 0) := by
   rw [List.getD_eq_getElem?_getD, List.getElem?_eq_none (by unfold prL; rw [List.length_map]; omega)]
   rfl
  rw [this];exact ⟨Lp.zero, by decide +kernel, by decide +kernel⟩
theorem okL_in {n : Nat} {lo hi : List ByteArray} (h1 : okL lo lo.length) (h2 : okL hi hi.length) (hl : lo.length = n + 1) (hh : hi.length = n + 1) : WtIn n (prL lo) (prL hi) := by
 have e : ∀ L : List ByteArray, (prL L).length = L.length := fun L => by unfold prL; rw [List.length_map]
 refine ⟨(e lo).trans hl, (e hi).trans hh, fun k => (okL_few h1 k).1, fun k => (okL_few h2 k).1, ?_, ?_, fun k => ?_, fun k => ?_⟩
 ·have := okL_few h1 0; exact ⟨by omega, by omega⟩
 ·have := okL_few h2 0; exact ⟨by omega, by omega⟩
 ·have := okL_few h1 k; exact ⟨by omega, by omega⟩
 ·have := okL_few h2 k; exact ⟨by omega, by omega⟩
def acOk (N : Nt) (lo hi : List ByteArray) : Prop := (okL lo lo.length ∧ okL hi hi.length) ∧ (lo.length ≤ 140 ∧ hi.length ≤ 140) ∧ wchk N (prL lo) (prL hi) = 0
theorem acOk_ses {N : Nt} {lo hi : List ByteArray} {D : Nat} (h : acOk N lo hi) (hD : 1 < D) : ∃ n : Nat, N.n = (n : Int) ∧ lo.length = n + 1 ∧ hi.length = n + 1 ∧ SesOk N n (prL lo) (prL hi) [] D := by
 obtain ⟨⟨h1, h2⟩, _, h3⟩ := h
 have e : ∀ L : List ByteArray, (prL L).length = L.length := fun L => by unfold prL; rw [List.length_map]
 unfold wchk at h3;by_cases hc : vld N = true ∧ ((prL lo).length : Int) = N.n + 1 ∧ ((prL hi).length : Int) = N.n + 1
 ·rw [if_pos hc] at h3;obtain ⟨hv, e1, e2⟩ := hc;rw [e] at e1 e2;obtain ⟨hn0, hn1, hl0, hl1⟩ := vld_bounds hv;obtain ⟨n, hn⟩ : ∃ n : Nat, N.n = (n : Int) := ⟨N.n.toNat, by omega⟩;by_cases hk : cchk N = 0
  ·rw [if_pos hk] at h3
   have hb : ¬ 16384 < sumB (prL lo) N.n.toNat + sumB (prL hi) N.n.toNat := fun hb => by rw [if_pos hb] at h3; exact absurd h3 (by decide)
   rw [show N.n.toNat = n by omega] at hb;obtain ⟨hd, hs⟩ := cchk_zero hv hk;exact ⟨n, hn, by omega, by omega, hv, hd, hs, hn, okL_in h1 h2 (by omega) (by omega), hb, TOk.nil, by decide, hD⟩
  ·rw [if_neg hk] at h3;exact absurd h3 hk
 ·rw [if_neg hc] at h3;exact absurd h3 (by decide)
end Go.Proofs.YtoljkoifgnmbgaaGreatDoor
end
