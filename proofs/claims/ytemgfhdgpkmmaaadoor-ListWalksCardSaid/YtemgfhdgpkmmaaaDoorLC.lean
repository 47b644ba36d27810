/- The walk of Seek. -/
import Derived.Test.YtemgfhdgpkmmaaaDoorL9
set_option linter.unusedSimpArgs false
set_option linter.unusedVariables false
open Go Go.RowKit Cs
namespace Go.Proofs.YtemgfhdgpkmmaaaDoor
theorem results_cell_tmp2 {fn : Func} {p u v : Tmp} {ty : TypeId} (h : fn.results = #[.cell p ty, .tmp u, .tmp v]) (tmps : Array Value) (P : Program) (w : World) :
    (results fn tmps).run P w = ((asAddr (tmps.getD p undef)).run P w).andThen fun a w₁ => ((loadVar ty a).run P w₁).andThen fun x w₂ => .ok (.tuple #[x, tmps.getD u undef, tmps.getD v undef]) w₂ := by
  simp only [results, h]
  simp [Sem.run_bind, Result.andThen]
theorem ret_set3 {fn : Func} {R : Ending → World → Prop} {a : Act} {w : World} {p u v : Tmp} (h : fn.results = #[.cell p 27, .tmp u, .tmp v]) {g : Nat} {t : TypeId} (s : Nat) {f : Nat → Value} {b e : Value}
    (hp : a.tmps.getD p undef = .pointer (some ⟨g, 0, none⟩)) (hb : a.tmps.getD u undef = b) (he : a.tmps.getD v undef = e) (hrow : w.rowIs g t 2 f) (h0 : f 0 = .int .u64 (lo s : Int)) (h1 : f 1 = .int .u64 (hi s : Int)) (hdf : a.defers = []) (hR : R (.returned (.tuple #[setV s, b, e])) w) : bodyPost Tryd.prog fn R .ret a w := by
  refine bodyPost_ret (v := .tuple #[setV s, b, e]) ?_ hdf hR
  rw [results_cell_tmp2 h, hp]
  simp only [asAddr, Sem.run_pure, Result.andThen_ok]
  have hl := run_loadVar_row (P := Tryd.prog) w g t 27 _ (0, 0) _ (rowArr hrow) Tryd.underlying27 rfl (by simpa using size_set)
  have e2 : ((List.range 2).map f).toArray = #[f 0, f 1] := rfl
  rw [e2, h0, h1] at hl
  rw [hl, hb, he]
  simp
/-- What Seek returns: the set, whether there is one, the error. -/
def skV (p : Pt) (e : Int) : Value := .tuple #[setV p.set, .bool p.ok, .int .i64 e]
def skR (N : Nt) (a : Nat) : Value := if lerr N a = 0 then skV (seekN N a) 0 else skV ⟨0, false⟩ (lerr N a)
/-- The boxes of Seek: the net, the set, the result. -/
structure SkR (w : World) (N : Nt) (A : Option Addr) (c a : Nat) (wr : World) : Prop where
  n : wr.rowIs w.heap.size 24 2 (ntF N A c)
  a : wr.rowIs (w.heap.size + 1) 27 2 (setF a)
  r : wr.rowIs (w.heap.size + 1 + 1) 27 2 (setF 0)
  bl : Below w.heap.size w wr
section
variable {w wr w' : World} {N : Nt} {A : Option Addr} {c a : Nat}
theorem SkR.below (h : SkR w N A c a wr) (hb : Below wr.heap.size wr w') : SkR w N A c a w' := ⟨rowBelow h.n hb, rowBelow h.a hb, rowBelow h.r hb, Cs.Below.trans' h.bl hb h.bl.size⟩
theorem SkR.cells (h : SkR w N A c a wr) : wr.cell? ⟨w.heap.size, 0, none⟩ = some (.int .i64 N.n) ∧ wr.cell? ⟨w.heap.size, 1, none⟩ = some (.slice A N.l.length c) ∧ wr.cell? ⟨w.heap.size + 1, 0, none⟩ = some (.int .u64 (lo a : Int)) ∧ wr.cell? ⟨w.heap.size + 1, 1, none⟩ = some (.int .u64 (hi a : Int)) ∧ wr.cell? ⟨w.heap.size + 1 + 1, 0, none⟩ = some (.int .u64 (lo 0 : Int)) ∧ wr.cell? ⟨w.heap.size + 1 + 1, 1, none⟩ = some (.int .u64 (hi 0 : Int)) ∧ wr.frozen? ⟨w.heap.size + 1 + 1, 0, none⟩ = false ∧ wr.frozen? ⟨w.heap.size + 1 + 1, 1, none⟩ = false :=
  ⟨(ntCells h.n).1, (ntCells h.n).2, (cellsOf h.a).1, (cellsOf h.a).2, (setCells h.r).1, (setCells h.r).2.1, h.r.frozen 0, h.r.frozen 1⟩
end
set_option maxRecDepth 100000 in
set_option maxHeartbeats 1000000 in
theorem seek_any (w : World) (N : Nt) (A : Option Addr) (c a : Nat) (hlen : N.l.length ≤ 140737488355328) (hN : NtAt w w.heap.size A N.l) (ha : IsSet a) (hT : Tab w) :
    Calls Tryd.prog 14 #[ntV N A c, setV a] w fun e w' => e = .returned (skR N a) ∧ Below w.heap.size w w' := by
  have hq : SkR w N A c a (((w.alloc (.cells #[.int .i64 N.n, .slice A N.l.length c] 24)).alloc (.cells #[.int .u64 (lo a : Int), .int .u64 (hi a : Int)] 27)).alloc (.cells #[.int .u64 0, .int .u64 0] 27)) :=
    ⟨((ntNew w N A c _ _ rfl).alloc _).alloc _, (setNew _ a _ _ (by simp)).alloc _, setZero _ _ _ (by simp), (((Below.refl _ _).alloc (Nat.le_refl _) _).alloc (by simp) _).alloc (by simp; omega) _⟩
  by_cases he : lerr N a = 0
  · obtain ⟨hv, _, hd⟩ := lerr_zero he
    have hnl := fun W (hb : Below w.heap.size w W) => newLister_fine W N A c a hlen ((hN.below hb).more hb.size) ha he
    have hev := fun W (hb : Below w.heap.size w W) => eval_any W N A c a hlen ((hN.below hb).more hb.size)
    rw [hv, Bool.true_and] at hev
    have hsk : skR N a = skV (if evB N a then ⟨a, true⟩ else afterN N a) 0 := by unfold skR; rw [if_pos he]; rfl
    have haf : ∀ W g q (hb : Below w.heap.size w W) (hl : LsAt W N A c g q), Calls Tryd.prog 38 #[.pointer (some ⟨g, 0, none⟩), setV a] W fun e w' => e = .returned (.tuple #[setV (afterN N a).set, .bool (afterN N a).ok]) ∧ Below W.heap.size W w' := fun W g q hb hl => after_any W N A c g q a hl ((hN.below hb).more hb.size) hv hd (hT.below hb)
    obtain ⟨P, hP⟩ : ∃ P, afterN N a = P := ⟨_, rfl⟩
    simp only [hP] at haf
    rw [hP] at hsk
    obtain ⟨B, hB⟩ : ∃ B, evB N a = B := ⟨_, rfl⟩
    rw [hB] at hsk
    simp only [hB] at hev
    rw [hsk]
    have HNL := Lib.hid hnl
    have HEV := Lib.hid hev
    have HAF := Lib.hid haf
    clear hnl hev haf hP hB hsk he hv hd
    cases B
    · go_enter Tryd.func14, Tryd.ntmps14
      obtain ⟨c1, c2, c3, c4, z1, z2, f1, f2⟩ := hq.cells
      go_wp2_with (first
        | (go_at_call 37; (with_reducible refine (HNL.out _ hq.bl).mono ?_); rintro e w5 ⟨g, q, rfl, hg, hq2, hls, hb5⟩; replace hq := hq.below hb5; obtain ⟨c1, c2, c3, c4, z1, z2, f1, f2⟩ := hq.cells)
        | (go_at_call 19; (with_reducible refine (HEV.out _ hq.bl).mono ?_); rintro e w6 ⟨rfl, hb6⟩; replace hq := hq.below hb6; replace hls := hls.below hb6; obtain ⟨c1, c2, c3, c4, z1, z2, f1, f2⟩ := hq.cells)
        | (go_at_call 38; (with_reducible refine (HAF.out _ g q hq.bl hls).mono ?_); rintro e w7 ⟨rfl, hb7⟩; replace hq := hq.below hb7; have hlt := hq.r.lt; obtain ⟨c1, c2, c3, c4, z1, z2, f1, f2⟩ := hq.cells; have hq2 := (hq.below ((Below.refl _ _).alloc (Nat.le_refl _) (.cells #[.int .u64 (lo P.set : Int), .int .u64 (hi P.set : Int)] 27))); obtain ⟨d1, d2, d3, d4, y1, y2, g1, g2⟩ := hq2.cells))
      exact ret_set3 rfl P.set rfl rfl rfl ((setPut hq.r _).alloc _) rfl rfl rfl ⟨rfl, ((hq.bl.setCell (by simp <;> omega) _).setCell (by simp <;> omega) _).alloc (by rw [size_setCell, size_setCell]; exact hq.bl.size) _⟩
    · go_enter Tryd.func14, Tryd.ntmps14
      obtain ⟨c1, c2, c3, c4, z1, z2, f1, f2⟩ := hq.cells
      go_wp2_with (first
        | (go_at_call 37; (with_reducible refine (HNL.out _ hq.bl).mono ?_); rintro e w5 ⟨g, q, rfl, hg, hq2, hls, hb5⟩; replace hq := hq.below hb5; obtain ⟨c1, c2, c3, c4, z1, z2, f1, f2⟩ := hq.cells)
        | (go_at_call 19; (with_reducible refine (HEV.out _ hq.bl).mono ?_); rintro e w6 ⟨rfl, hb6⟩; replace hq := hq.below hb6; replace hls := hls.below hb6; obtain ⟨c1, c2, c3, c4, z1, z2, f1, f2⟩ := hq.cells))
      exact ret_set3 rfl a rfl rfl rfl (setPut hq.r _) rfl rfl rfl ⟨rfl, (hq.bl.setCell (by simp <;> omega) _).setCell (by simp <;> omega) _⟩
  · have hnl := fun W (hb : Below w.heap.size w W) => newLister_err W N A c a hlen ((hN.below hb).more hb.size) ha he
    have hsk : skR N a = skV ⟨0, false⟩ (lerr N a) := by unfold skR; rw [if_neg he]
    rw [hsk]
    obtain ⟨E, hE⟩ : ∃ E, lerr N a = E := ⟨_, rfl⟩
    simp only [hE] at hnl
    rw [hE] at he ⊢
    have hb : (E == 0) = false := beq_eq_false_iff_ne.2 he
    have HNL := Lib.hid hnl
    clear hnl hsk hE
    go_enter Tryd.func14, Tryd.ntmps14
    obtain ⟨c1, c2, c3, c4, z1, z2, f1, f2⟩ := hq.cells
    go_wp2_with (go_at_call 37; (with_reducible refine (HNL.out _ hq.bl).mono ?_); rintro e w5 ⟨rfl, hb5⟩; replace hq := hq.below hb5; obtain ⟨c1, c2, c3, c4, z1, z2, f1, f2⟩ := hq.cells)
    exact ret_set3 rfl 0 rfl rfl rfl ((hq.r.set 0 _).set 1 _) rfl rfl rfl ⟨rfl, (hq.bl.setCell (by simp <;> omega) _).setCell (by simp <;> omega) _⟩
end Go.Proofs.YtemgfhdgpkmmaaaDoor
