/- The walk of weigh's fill. -/
import Derived.Test.YtgnobohfnhpkdaaDoorDn
import Derived.Test.YtgnobohfnhpkdaaDoorS2
set_option linter.unusedSimpArgs false
set_option linter.unusedVariables false
open Go Go.RowKit Cs
namespace Cs
/-- A pair times those of variables. -/
def pfill (B : List Pr) (x : Pr) (vs : List Int) : Pr := vs.foldl (fun x v => pmul x (B.getD v.toNat (0, 0))) x
end Cs
namespace Go.Proofs.YtgnobohfnhpkdaaDoor
set_option maxRecDepth 100000 in
set_option maxHeartbeats 2000000 in
theorem fill_any (w : World) (n d all s p g m cap : Nat) (B : List Pr) (hm : m ≤ 1000000) (hp : w.cell? ⟨p, 0, none⟩ = some (.slice (some ⟨g, 0, none⟩) m cap)) (hr0 : w.rowIs g 65 (m * 2) (prsF B))
    (hv : ∀ v ∈ vl (minus all s), v.toNat < m) (hsp : ∀ k, Sp (B.getD k (0, 0))) (hpart : ∀ k, Sp (pfill B (n, d) ((vl (minus all s)).take k))) (hT : Tab w) :
    Calls Tryd.prog 62 #[ratV n d, setV all, setV s, .pointer (some ⟨p, 0, none⟩)] w fun e w' => e = .returned (ratV (pfill B (n, d) (vl (minus all s))).1 (pfill B (n, d) (vl (minus all s))).2) ∧ Below w.heap.size w w' := by
  have hmi := fun W => minus_any W all s
  have hli := fun W h => vlist_own W (minus all s) h
  have hvb : ∀ v ∈ vl (minus all s), 1 ≤ v ∧ v ≤ 128 := vl_bounds _
  have hvl := vl_length (minus all s)
  obtain ⟨M, hM⟩ : ∃ M, minus all s = M := ⟨_, rfl⟩
  simp only [hM] at *
  obtain ⟨vs, hvs⟩ : ∃ vs, vl M = vs := ⟨_, rfl⟩
  simp only [hvs] at *
  obtain ⟨R, hR⟩ : ∃ R, pfill B (n, d) vs = R := ⟨_, rfl⟩
  rw [hR]
  have HR := Lib.hid hR
  have HMI := Lib.hid hmi
  have HLI := Lib.hid hli
  have HV : Hid (∀ v ∈ vs, 1 ≤ v ∧ v.toNat < m) := Lib.hid fun v h => ⟨(hvb v h).1, hv v h⟩
  have hg := hr0.lt
  have hpl := World.block_lt_of_cell? w _ hp
  simp only at hpl
  have hcl := fun k hk => prsCells hr0 k hk
  have HCL := Lib.hid hcl
  have HSP := Lib.hid hsp
  have HPT := Lib.hid hpart
  clear hR hcl hsp hpart hr0 hM hvs hmi hli hvb hv
  have hx := ((ratNew w n d 65 _ rfl).alloc (.cells #[.int .u64 (lo all : Int), .int .u64 (hi all : Int)] 30)).alloc (.cells #[.int .u64 (lo s : Int), .int .u64 (hi s : Int)] 30) |>.alloc (.cells #[.string ⟨#[]⟩, .string ⟨#[]⟩] 65)
  have hr := ratZero (((w.alloc (.cells #[.string (natB n), .string (natB d)] 65)).alloc (.cells #[.int .u64 (lo all : Int), .int .u64 (hi all : Int)] 30)).alloc (.cells #[.int .u64 (lo s : Int), .int .u64 (hi s : Int)] 30)) 65 (w.heap.size + 1 + 1 + 1) (by simp)
  have hbel := ((((Below.refl w.heap.size w).alloc (Nat.le_refl _) (.cells #[.string (natB n), .string (natB d)] 65)).alloc (by simp) (.cells #[.int .u64 (lo all : Int), .int .u64 (hi all : Int)] 30)).alloc (by simp; omega) (.cells #[.int .u64 (lo s : Int), .int .u64 (hi s : Int)] 30)).alloc (by simp; omega) (.cells #[.string ⟨#[]⟩, .string ⟨#[]⟩] 65)
  go_enter Tryd.func62, Tryd.ntmps62
  go_wp2_with (first
    | (go_at_call 33
       (with_reducible refine (HMI.out _).mono ?_)
       rintro e w1 ⟨rfl, hb1⟩
       have hz1 := hb1.size
       simp at hz1
       replace hr := rowBelow hr hb1
       replace hx := rowBelow hx hb1
       replace hbel := hbel.trans (hb1.mono (by simp; omega))
       clear hb1)
    | (go_at_call 32
       (with_reducible refine (HLI.out _ (hT.below hbel)).mono ?_)
       rintro e w2 ⟨A, c, rfl, hrd, hge, hb2⟩
       have hz2 := hb2.size
       have hge2 : ∀ b o, A = some ⟨b, o, none⟩ → w.heap.size + 1 + 1 + 1 < b := fun b o h => by have h1 := hge b o h; have h2 := hr.lt; omega
       replace hr := rowBelow hr hb2
       replace hx := rowBelow hx hb2
       replace hbel := hbel.trans (hb2.mono (by omega))
       clear hb2 hge))
  have HGE := Lib.hid hge2
  clear hge2 HMI HLI
  go_loopw [15] (fun t wr => ∃ k : Nat, ∃ q : Pr, k ≤ vs.length ∧ t = .int .i64 k ∧ Hid (pfill B (n, d) (vs.take k) = q) ∧ wr.rowIs w.heap.size 65 2 (ratF q.1 q.2) ∧ wr.rowIs (w.heap.size + 1 + 1 + 1) 65 2 (ratF 0 0) ∧ Rd wr wr.heap.size A vs.length (intF vs) ∧ Below w.heap.size w wr) (fun t _ => vs.length - (intOf t).toNat)
  case atStart => exact ⟨0, (n, d), by omega, rfl, rfl, hx, hr, hrd, hbel⟩
  case round =>
    clear hr hx hbel hrd
    obtain ⟨k, ⟨N, D⟩, hk, rfl, HP, hx, hr, hrd, hbel⟩ := hrel
    have HRD := Lib.hid hrd
    clear hrd
    by_cases hlt : k < vs.length
    · obtain ⟨b', o', rfl, hbB', hcs⟩ := HRD.out (by omega)
      have hc := hcs k hlt
      clear hcs
      unfold intF at hc
      have hgm : vs.getD k 0 = vs[k] := by simp [List.getD, hlt]
      rw [hgm] at hc
      obtain ⟨hv1, hv2⟩ := HV.out vs[k] (List.getElem_mem hlt)
      have htk : pfill B (n, d) (vs.take (k + 1)) = pmul (N, D) (B.getD (vs[k]).toNat (0, 0)) := by
        rw [List.take_succ_eq_append_getElem hlt]
        unfold pfill
        rw [List.foldl_append]
        show pmul (pfill B (n, d) (vs.take k)) _ = _
        rw [HP.out]
      have hs2 := HPT.out k
      rw [HP.out] at hs2
      obtain ⟨v, hve⟩ : ∃ v : Nat, vs[k] = (v : Int) := ⟨(vs[k]).toNat, by omega⟩
      rw [hve] at hc hv1 hv2 htk
      rw [Int.toNat_natCast] at hv2 htk
      obtain ⟨c1, c2⟩ := HCL.out v hv2
      replace c1 := below_cell hbel hg c1
      replace c2 := below_cell hbel hg c2
      have hp2 := below_cell hbel hpl hp
      have hs1 := HSP.out v
      generalize B.getD v (0, 0) = y at *
      obtain ⟨n', d'⟩ := y
      have hml := fun W => qmul_any W N D n' d' hs2.1 hs2.2 hs1.1 hs1.2
      have HML := Lib.hid hml
      have HTK := Lib.hid htk
      have hi1 : (0 : Int) ≤ (v : Int) := by omega
      have hi2 : (v : Int) < (m : Int) := by omega
      clear htk hml hs1 hs2 hgm hve hv1
      obtain ⟨x1, x2⟩ := ratCells hx
      have HG := Lib.hid (HGE.out _ _ rfl)
      go_wp2_with fail
      replace hr := hr.drew
      replace hx := hx.drew
      have hrd := HRD.out.drew
      replace hbel := hbel.drew
      have f1 := hx.frozen 0
      have f2 := hx.frozen 1
      go_region_law (
        go_simp
        go_at_call 63
        (with_reducible refine (HML.out _).mono ?_)
        rintro e w3 ⟨rfl, hb3⟩
        replace hr := rowBelow hr hb3
        replace hx := rowBelow hx hb3
        have hrd3 := (hrd.below hb3).more hb3.size
        replace hbel := Cs.Below.trans' hbel hb3 hbel.size
        clear x1 x2
        obtain ⟨x1, x2⟩ := ratCells hx
        have f1 := hx.frozen 0
        have f2 := hx.frozen 1)
      all_goals
        try go_wp2
        go_roundw
        case rel => exact ⟨k + 1, pmul (N, D) (n', d'), by omega, by go_num, HTK, ratSet hx _ _, (hr.setOther (by simp; omega) _).setOther (by simp; omega) _, (rdSetOther (rdSetOther hrd3 _ _ (fun b o h => by cases h; have := HG.out; simp; omega)) _ _ (fun b o h => by cases h; have := HG.out; simp; omega)).more (by rw [size_setCell, size_setCell]; exact Nat.le_refl _), (hbel.setCell (by simp) _).setCell (by simp) _⟩
        case measure => simp [intOf]; omega
    · obtain rfl : k = vs.length := by omega
      have hq := HP.out
      rw [List.take_length, HR.out] at hq
      subst hq
      obtain ⟨x1, x2⟩ := ratCells hx
      obtain ⟨c1, c2⟩ := ratCells hr
      have f1 := hr.frozen 0
      have f2 := hr.frozen 1
      go_wp2
      exact ret_rat rfl _ _ rfl (ratSet hr _ _) rfl ⟨rfl, (hbel.setCell (by simp; omega) _).setCell (by simp; omega) _⟩
end Go.Proofs.YtgnobohfnhpkdaaDoor
