/- The walk of ListWalks. -/
import Derived.Test.YtemgfhdgpkmmaaaDoorWb
set_option linter.unusedSimpArgs false
set_option linter.unusedVariables false
open Go Go.RowKit Cs
namespace Go.Proofs.YtemgfhdgpkmmaaaDoor
set_option maxRecDepth 100000 in
set_option maxHeartbeats 4000000 in
theorem walks_any (w : World) (N : Nt) (A : Option Addr) (c : Nat) (hlen : N.l.length ≤ 140737488355328) (hN : NtAt w w.heap.size A N.l) (hT : Tab w) :
    Calls Tryd.prog 7 #[ntV N A c] w fun e w' => e = .returned (.bool true) ∧ Below w.heap.size w w' := by
  have hq0 : Bag w (w.alloc (.cells #[.int .i64 N.n, .slice A N.l.length c] 24)) (w.alloc (.cells #[.int .i64 N.n, .slice A N.l.length c] 24)).heap.size [(w.heap.size, 24, 2, #[.int .i64 N.n, .slice A N.l.length c])] (w.alloc (.cells #[.int .i64 N.n, .slice A N.l.length c] 24)) := ((Bag.start (Below.refl _ w)).new #[.int .i64 N.n, .slice A N.l.length c] 24 w.heap.size 2 rfl rfl).rebase
  obtain ⟨V, hV⟩ : ∃ V, w.alloc (.cells #[.int .i64 N.n, .slice A N.l.length c] 24) = V := ⟨_, rfl⟩
  rw [hV] at hq0
  have hwV : Below w.heap.size w V := by rw [← hV]; exact (Below.refl _ _).alloc (Nat.le_refl _) _
  have hnt : ∀ W, Below V.heap.size V W → NtAt W W.heap.size A N.l := fun W hb => ((hN.below hwV).below (hb.mono hwV.size)).more (Nat.le_trans hwV.size hb.size)
  have htb : ∀ W, Below V.heap.size V W → Tab W := fun W hb => (hT.below hwV).below hb
  have hli := fun W hb => lightC_any W N A c hlen (hnt W hb)
  have hwk := fun W hb => works_any W (htb W hb)
  have htl := hT.lt
  have hwz := hwV.size
  have hwz1 : w.heap.size < V.heap.size := hq0.lt0
  have HWK := Lib.hid hwk
  have HV := Lib.hid hV
  cases hL : lightC N
  · simp only [hL] at hli
    have HLI := Lib.hid hli
    clear hli hL hnt htb hN hT hwk hV
    go_enter Tryd.func7, Tryd.ntmps7
    go_wp2_with fail
    rw [HV.out]
    refine (HLI.out _ hq0.base).mono ?_
    rintro e w5 ⟨rfl, hb5⟩
    have q5 := hq0.below hb5
    go_wp2_with fail
    refine (HWK.out _ q5.base).mono ?_
    rintro e w6 ⟨rfl, hb6⟩
    go_wp2
    go_ret
    exact ⟨rfl, (q5.below hb6).bl⟩
  · obtain ⟨hsl, h40, h7⟩ := lightC_use hL
    simp only [hL] at hli
    have hcp := fun W hb => copy_any W N A c (by omega) hsl (hnt W hb)
    have hrf : ∀ W, Below V.heap.size V W → Calls Tryd.prog 29 #[ntV N A c, .agg #[.int .u64 0, .int .u64 0]] W fun e w' => e = .returned (.int .i64 (lerr N 0)) ∧ Below W.heap.size W w' := fun W hb => ref_err_any W N A c 0 hlen (hnt W hb) isSet_zero
    have HLI := Lib.hid hli
    have HCP := Lib.hid hcp
    have HL := Lib.hid hL
    clear hli hcp hL hwk hV
    go_enter Tryd.func7, Tryd.ntmps7
    go_wp2_with fail
    rw [HV.out]
    refine (HLI.out _ hq0.base).mono ?_
    rintro e w5 ⟨rfl, hb5⟩
    have q5 := hq0.below hb5
    clear hq0 hb5
    have n1 := q5.is0 0 (by decide) (.int .i64 N.n) rfl
    have n2 := q5.is0 1 (by decide) (.slice A N.l.length c) rfl
    have hz5 := q5.lt0
    go_wp2_with fail
    refine (HCP.out _ q5.base).mono ?_
    rintro e w6 ⟨B, cb, rfl, hcn, hb6⟩
    have q6 := q5.below hb6
    have hcn6 := hcn.nt (hnt _ q5.base)
    have q7 := q6.new #[.int .i64 N.n, .slice B N.l.length cb] 24 w6.heap.size 2 rfl rfl
    have hnw := new_any (w6.alloc (.cells #[.int .i64 N.n, .slice B N.l.length cb] 24)) N B cb (by omega) hsl ((hcn6.below ((Below.refl _ _).alloc (Nat.le_refl _) _)).more (by simp))
    have hz6 := q6.lt0
    have hd5 : V.heap.size ≤ w5.heap.size := q5.le
    have hd6 : V.heap.size ≤ w6.heap.size := q6.le
    by_cases he : lerr N 0 = 0
    · have hnw2 := hnw.mono (R' := NewOk _ N) fun e w' h => h.elim (fun h => h.2) (fun h => absurd he h.1)
      rw [he] at hrf
      have HNW := Lib.hid hnw2
      have HRF := Lib.hid hrf
      have HHE := Lib.hid he
      have hsp6 := hcn.spoil (E := (w6.alloc (.cells #[.int .i64 N.n, .slice B N.l.length cb] 24)).heap.size) hsl (by simp)
      have hsp7 : SpN (w6.alloc (.cells #[.int .i64 N.n, .slice B N.l.length cb] 24)) w5.heap.size _ B N.l.length := hsp6.agree fun b _ hl => (World.grownBy_alloc w6 _ none).block b hl (by simp)
      have HCN := Lib.hid hsp7
      clear hnw hnw2 hrf he hcn hcn6 hsp6 hsp7 q5 n1 n2
      go_wp2_with fail
      refine HNW.out.mono ?_
      rintro e w8 ⟨g, gl, qq, A', c', rfl, hwl, hb8⟩
      have q8 := q7.below hb8
      have hcn8 := HCN.out.agree (w' := w8) fun b _ hl => hb8.block b hl
      have HW8 := Lib.hid hwl
      have HC8 := Lib.hid hcn8
      have n1 := q8.tail.is0 0 (by decide) (.int .i64 N.n) rfl
      have n2 := q8.tail.is0 1 (by decide) (.slice A N.l.length c) rfl
      have m1 := q8.is0 0 (by decide) (.int .i64 N.n) rfl
      have m2 := q8.is0 1 (by decide) (.slice B N.l.length cb) rfl
      have hz8 := q8.lt0
      clear HNW HCN hcn8 hwl q6
      go_wp2_with fail
      refine (HRF.out _ q8.base).mono ?_
      rintro e w9 ⟨rfl, hb9⟩
      have q9 := q8.below hb9
      have hw9 := HW8.out.below hb9
      have hsp9 := (HC8.out.agree (w' := w9) fun b _ hl => hb9.block b hl)
      obtain ⟨E0, hE0⟩ : ∃ E0, (w6.alloc (.cells #[.int .i64 N.n, .slice B N.l.length cb] 24)).heap.size = E0 := ⟨_, rfl⟩
      rw [hE0] at hw9 hsp9
      have hs9 : SpS w V N A B c cb w5.heap.size E0 w6.heap.size g gl qq A' c' w9 := ⟨hsp9, hw9, q9, hd5, hz5⟩
      have m1 := q9.is0 0 (by decide) (.int .i64 N.n) rfl
      have m2 := q9.is0 1 (by decide) (.slice B N.l.length cb) rfl
      have hz9 := q9.lt0
      clear hsp9 hw9 q8 q9 q7 n1 n2 hz8 HRF HC8 HW8 hb8 hb9
      go_wp2_with fail
      go_loopw [43] (fun t wr => ∃ i : Nat, i ≤ N.l.length ∧ t = .int .i64 (i : Int) ∧ SpS w V N A B c cb w5.heap.size E0 w6.heap.size g gl qq A' c' wr) (fun t _ => N.l.length - (intOf t).toNat)
      case atStart => exact ⟨0, by omega, rfl, hs9⟩
      case round =>
        clear hs9 m1 m2 hz9
        obtain ⟨i, hi0, rfl, hs⟩ := hrel
        have q := hs.bag
        have m1 := q.is0 0 (by decide) (.int .i64 N.n) rfl
        have m2 := q.is0 1 (by decide) (.slice B N.l.length cb) rfl
        have hz := q.lt0
        by_cases hlt : i < N.l.length
        · obtain ⟨gn, cap, F, rfl, hsp⟩ := hs.sp (by omega)
          obtain ⟨A2, m, c2, hF, hm, hsa⟩ := hsp.ins i hlt
          have k1 := hsp.row.cell (i := i * 3 + 2) (by have := hsp.le; omega)
          rw [hF] at k1
          have HSA := Lib.hid hsa
          have HSP := Lib.hid hsp
          have HF := Lib.hid hF
          have HS := Lib.hid hs
          clear hsa hs hF hsp q
          go_wp2_with fail
          obtain ⟨W0, rfl⟩ : ∃ W0, W0 = wr := ⟨wr, rfl⟩
          go_loopw [53] (fun t wr => ∃ j : Nat, j ≤ m ∧ t = .int .i64 (j : Int) ∧ SpS w V N A (some ⟨gn, 0, none⟩) c cb w5.heap.size E0 w6.heap.size g gl qq A' c' wr ∧ SpI wr w5.heap.size E0 gn cap N.l.length F) (fun t _ => m - (intOf t).toNat)
          case atStart => exact ⟨0, by omega, rfl, HS.out, HSP.out⟩
          case round =>
            clear m1 m2 hz k1
            obtain ⟨j, hj, rfl, hs, hsp⟩ := hrel
            have q := hs.bag
            have m1 := q.is0 0 (by decide) (.int .i64 N.n) rfl
            have m2 := q.is0 1 (by decide) (.slice (some ⟨gn, 0, none⟩) N.l.length cb) rfl
            have hz := q.lt0
            have k1 := hsp.row.cell (i := i * 3 + 2) (by have := hsp.le; omega)
            rw [HF.out] at k1
            by_cases hjm : j < m
            · obtain ⟨gi, ci, fi, rfl, hlo, hhi, hri, hci⟩ : ∃ gi ci fi, A2 = some ⟨gi, 0, none⟩ ∧ w5.heap.size ≤ gi ∧ gi < E0 ∧ wr.rowIs gi 3 ci fi ∧ m ≤ ci := by
                obtain ⟨A3, m3, c3, e3, _, h3⟩ := hsp.ins i hlt
                rw [HF.out] at e3
                injection e3 with e1 e2 e4
                subst e1 e2
                exact h3 (by omega)
              have f1 := hri.cell (i := j) (by omega)
              have f2 := hri.frozen j
              have HS2 : Hid (SpS w V N A (some ⟨gn, 0, none⟩) c cb w5.heap.size E0 w6.heap.size g gl qq A' c' (wr.setCell ⟨gi, j, none⟩ (.int .i64 0)) ∧ SpI (wr.setCell ⟨gi, j, none⟩ (.int .i64 0)) w5.heap.size E0 gn cap N.l.length F) :=
                Lib.hid ⟨⟨fun _ => ⟨gn, cap, F, rfl, hsp.input hri j _⟩, hs.wk.spo hhi j _, hs.bag.spo hs.lo hri (by decide) hlo j _, hs.lo⟩, hsp.input hri j _⟩
              clear hs hsp q hri
              go_wp2
              go_roundw
              case rel => exact ⟨j + 1, by omega, by go_num, HS2.out⟩
              case measure => simp [intOf]; omega
            · obtain rfl : j = m := by omega
              have k2 := hsp.row.cell (i := i * 3) (by have := hsp.le; omega)
              have k3 := hsp.row.cell (i := i * 3 + 1) (by have := hsp.le; omega)
              have y1 := hsp.row.frozen (i * 3)
              have y2 := hsp.row.frozen (i * 3 + 1)
              have y3 := hsp.row.frozen (i * 3 + 2)
              have HS2 : Hid (SpS w V N A (some ⟨gn, 0, none⟩) c cb w5.heap.size E0 w6.heap.size g gl qq A' c' (((wr.setCell ⟨gn, i * 3, none⟩ (.int .i64 0)).setCell ⟨gn, i * 3 + 1, none⟩ (.int .i64 0)).setCell ⟨gn, i * 3 + 2, none⟩ (.slice none 0 0))) :=
                Lib.hid (by
                  have r1 := hsp.row.set (i * 3) (.int .i64 0)
                  have r2 := r1.set (i * 3 + 1) (.int .i64 0)
                  exact ⟨fun _ => ⟨gn, cap, _, rfl, hsp.wipe i _ _⟩, ((hs.wk.spo hsp.hi _ _).spo hsp.hi _ _).spo hsp.hi _ _, ((hs.bag.spo hs.lo hsp.row (by decide) hsp.lo _ _).spo hs.lo r1 (by decide) hsp.lo _ _).spo hs.lo r2 (by decide) hsp.lo _ _, hs.lo⟩)
              clear hs hsp q
              go_wp2
              go_roundw
              case rel => exact ⟨i + 1, by omega, by go_num, HS2.out⟩
              case measure => simp [intOf]; omega
        · obtain rfl : i = N.l.length := by omega
          obtain ⟨hv, _, hd⟩ := lerr_zero HHE.out
          obtain ⟨hn0, hn1, hl0, hl1⟩ := vld_bounds hv
          have hn7 := h7 hv
          obtain ⟨n, hn⟩ : ∃ n : Nat, N.n = (n : Int) := ⟨N.n.toNat, by omega⟩
          have hmo := models21_own wr N A c n hn (by omega) (hnt _ q.base) hv
          have n1 := q.tail.is0 0 (by decide) (.int .i64 N.n) rfl
          have n2 := q.tail.is0 1 (by decide) (.slice A N.l.length c) rfl
          obtain ⟨L, hL⟩ : ∃ L, mdl N n (2 ^ n) = L := ⟨_, rfl⟩
          have hjn : ∀ j s, WkJ N n j s → j < L.length → ∃ s', s.next N = ⟨L.getD j 0, true⟩ ∧ s.step N = s' ∧ WkJ N n (j + 1) s' := fun j s h hj => by rw [← hL] at hj ⊢; exact h.next hv hd hn (by omega) hj
          have hjf : ∀ j s, WkJ N n j s → ¬ j < L.length → WkF N s := fun j s h hj => h.fin hv hd hn (by rw [hL]; exact hj)
          have hLl : L.length ≤ 4096 := by rw [← hL]; exact Nat.le_trans (mdl_len N n _) (Nat.le_trans (Nat.pow_le_pow_right (by decide) (show n ≤ 7 by omega)) (by decide))
          rw [hL] at hmo
          have hnx := fun W D g gl q A c s s' p k h hT hg hs hp hs' => next_at W N D g gl q A c s s' p k h hv hd hT hg hs hp hs'
          have hgE := hs.wk.lo1.2.2
          have HN := Lib.hid hn
          have hwk := hs.wk
          have HMO := Lib.hid hmo
          have HJN := Lib.hid hjn
          have HJF := Lib.hid hjf
          have HNX := Lib.hid hnx
          have HTB := Lib.hid htb
          have HTL := Lib.hid (show ∀ b, V.heap.size ≤ b → 1 < b from fun b hb => by omega)
          clear hn7 hn hmo hjn hjf hnx hL hv hd hn0 hn1 hl0 hl1 hs htb hnt hT hN hsl h7 HHE
          go_wp2_with fail
          refine HMO.out.mono ?_
          rintro e w10 ⟨B2, cb2, rfl, hrd, hfr, hb10⟩
          have q10 := q.below hb10
          have hw10 := hwk.below hb10
          have hrk : RdK w10 wr.heap.size w10.heap.size B2 (L.length * 2) (setsF L) := fun h => by
            obtain ⟨b, o, e, h1, h2⟩ := hrd h
            obtain ⟨b', e', h3⟩ := hfr (by omega)
            rw [e] at e'
            injection e' with e'
            injection e' with e' _ _
            exact ⟨b, o, e, by omega, h1, h2⟩
          have hgl := hwk.row.lt
          obtain ⟨Z, hZ⟩ : ∃ Z, wr.heap.size = Z := ⟨_, rfl⟩
          rw [hZ] at hrk hgl
          clear hrd hfr n1 n2 m1 m2 hz q hwk HMO hb10 hZ
          go_wp2_with fail
          go_loopw [74] (fun t wr => ∃ (j : Nat) (s : Wk) (kk : Int), j ≤ L.length ∧ t = .int .i64 (j : Int) ∧ Hid (WkJ N n j s) ∧ WkLies wr N E0 g gl qq A' c' s kk ∧ Bag w V V.heap.size [(w6.heap.size, 24, 2, #[.int .i64 N.n, .slice B N.l.length cb]), (w.heap.size, 24, 2, #[.int .i64 N.n, .slice A N.l.length c])] wr ∧ RdK wr Z w10.heap.size B2 (L.length * 2) (setsF L) ∧ w10.heap.size ≤ wr.heap.size) (fun t _ => L.length - (intOf t).toNat)
          case atStart => exact ⟨0, ⟨0, false, false⟩, 0, by omega, rfl, Lib.hid (WkJ.start N n), hw10, q10, hrk, Nat.le_refl _⟩
          case round =>
            clear hw10 q10 hrk
            obtain ⟨j, s, kk, hj, rfl, HK, hw, q, hrk, hz⟩ := hrel
            have hne : ∀ r ∈ [(w6.heap.size, 24, 2, #[Value.int .i64 N.n, .slice B N.l.length cb]), (w.heap.size, 24, 2, #[Value.int .i64 N.n, .slice A N.l.length c])], r.1 ≠ g := fun r hr => by
              have : w6.heap.size < E0 := by rw [← hE0]; simp
              simp only [List.mem_cons, List.not_mem_nil, or_false] at hr
              rcases hr with rfl | rfl
              · show w6.heap.size ≠ g
                omega
              · show w.heap.size ≠ g
                omega
            have hE6 : w6.heap.size < E0 := by rw [← hE0]; simp
            have hVg : V.heap.size ≤ g := by omega
            have hdg := HTL.out g hVg
            by_cases hjl : j < L.length
            · obtain ⟨s', hp, hs', hk'⟩ := HJN.out j s HK.out hjl
              obtain ⟨b, o, rfl, hb1, hb2, hcs⟩ := hrk (by omega)
              have c1 := hcs (j * 2) (by omega)
              have c2 := hcs (j * 2 + 1) (by omega)
              obtain ⟨a, ha⟩ : ∃ a, L.getD j 0 = a := ⟨_, rfl⟩
              unfold setsF at c1 c2
              rw [if_pos (by omega), show j * 2 / 2 = j by omega, ha] at c1
              rw [if_neg (by omega), show (j * 2 + 1) / 2 = j by omega, ha, ← Nat.add_assoc] at c2
              rw [ha] at hp
              have q1 := q.new #[.int .u64 (lo a : Int), .int .u64 (hi a : Int)] 27 wr.heap.size 2 rfl rfl
              have hw1 := hw.alloc (.cells #[.int .u64 (lo a : Int), .int .u64 (hi a : Int)] 27)
              have hnx := HNX.out _ _ g gl qq A' c' s s' _ kk hw1 (HTB.out _ q1.base) hdg HK.out.1 hp hs'
              have HN2 := Lib.hid hnx
              have HW := Lib.hid hw
              have HRK := Lib.hid hrk
              have HKK := Lib.hid hk'
              clear hnx hp hs' hcs ha hk' hw hw1 hrk
              have hgw := HW.out.row.lt
              go_wp2_with fail
              refine HN2.out.mono ?_
              rintro e w12 ⟨rfl, hw12, hg12⟩
              have q12 := q1.grown hg12 hVg (fun r hr => by
                rcases List.mem_cons.1 hr with rfl | hr
                · exact Nat.ne_of_gt hgw
                · exact hne r hr)
              have hk12 : RdK w12 Z w10.heap.size (some ⟨b, o, none⟩) (L.length * 2) (setsF L) := HRK.out.agree fun b h1 h2 => (hg12.block b (by simp; omega) (by intro e; injection e with e; omega)).trans ((World.grownBy_alloc wr _ none).block b (by omega) (by simp))
              have hz12 : w10.heap.size ≤ w12.heap.size := by have := hg12.size; simp at this; omega
              have s1 := q12.is0 0 (by decide) (.int .u64 (lo a : Int)) rfl
              have s2 := q12.is0 1 (by decide) (.int .u64 (hi a : Int)) rfl
              have hzz := q12.lt0
              have heq := eq_same a
              have q13 := q12.tail.alloc (.cells #[.int .u64 (lo a : Int), .int .u64 (hi a : Int)] 27)
              have HR : Hid (RdK (w12.alloc (.cells #[.int .u64 (lo a : Int), .int .u64 (hi a : Int)] 27)) Z w10.heap.size (some ⟨b, o, none⟩) (L.length * 2) (setsF L)) := Lib.hid (hk12.agree fun b h1 h2 => (World.grownBy_alloc w12 _ none).block b (by omega) (by simp))
              have HWW := Lib.hid (hw12.alloc (.cells #[.int .u64 (lo a : Int), .int .u64 (hi a : Int)] 27))
              clear HN2 HW HRK hk12 hw12 q1 q12 q
              go_wp2
              go_roundw
              case rel => exact ⟨j + 1, s', _, by omega, by go_num, HKK, HWW.out, q13, HR.out, by simp; omega⟩
              case measure => simp [intOf]; omega
            · obtain rfl : j = L.length := by omega
              have hf := HJF.out _ s HK.out hjl
              have HF := Lib.hid hf
              clear hf HK hrk
              go_wp2_with fail
              go_loopw [91] (fun t wr => ∃ (k : Nat) (s : Wk) (kk : Int), k ≤ 3 ∧ t = .int .i64 (k : Int) ∧ Hid (WkF N s) ∧ WkLies wr N E0 g gl qq A' c' s kk ∧ Bag w V V.heap.size [(w6.heap.size, 24, 2, #[.int .i64 N.n, .slice B N.l.length cb]), (w.heap.size, 24, 2, #[.int .i64 N.n, .slice A N.l.length c])] wr) (fun t _ => 3 - (intOf t).toNat)
              case atStart => exact ⟨0, s, kk, by omega, rfl, HF, hw, q⟩
              case round =>
                clear hw q HF hz
                obtain ⟨k, s, kk, hk3, rfl, HF, hw, q⟩ := hrel
                by_cases hkl : k < 3
                · have hnx := HNX.out _ _ g gl qq A' c' s _ _ kk hw (HTB.out _ q.base) hdg HF.out.1 HF.out.2.1 HF.out.2.2
                  have HN2 : Hid (Calls Tryd.prog 31 #[.pointer (some ⟨g, 0, none⟩)] wr fun e w' => e = .returned (.tuple #[.agg #[.int .u64 0, .int .u64 0], .bool false]) ∧ WkLies w' N E0 g gl qq A' c' ⟨0, true, true⟩ (stepN N s kk) ∧ wr.grownBy w' (some g)) := Lib.hid hnx
                  clear hnx hw
                  have hc : decide ((k : Int) < 3) = true := decide_eq_true (by omega)
                  go_wp2_with fail
                  refine HN2.out.mono ?_
                  rintro e w12 ⟨rfl, hw12, hg12⟩
                  have q12 := (q.grown hg12 hVg hne).alloc (.cells #[.int .u64 0, .int .u64 0] 27)
                  have heq : (Op.equalIn 10000 27 (.agg #[.int .u64 0, .int .u64 0]) (.agg #[.int .u64 0, .int .u64 0])).run Tryd.prog (w12.alloc (.cells #[.int .u64 0, .int .u64 0] 27)) = .ok true (w12.alloc (.cells #[.int .u64 0, .int .u64 0] 27)) := eq_same 0 _
                  have HWW := Lib.hid (hw12.alloc (.cells #[.int .u64 0, .int .u64 0] 27))
                  clear hw12 HN2 q
                  go_wp2
                  go_roundw
                  case rel => exact ⟨k + 1, _, _, by omega, by go_num, Lib.hid (WkF.dead N), HWW.out, q12⟩
                  case measure => simp [intOf]; omega
                · obtain rfl : k = 3 := by omega
                  clear hw HF
                  go_wp2_with fail
                  refine (HWK.out _ q.base).mono ?_
                  rintro e w13 ⟨rfl, hb13⟩
                  go_wp2
                  go_ret
                  exact ⟨rfl, (q.below hb13).bl⟩
    · obtain ⟨E, hE⟩ : ∃ E, lerr N 0 = E := ⟨_, rfl⟩
      have hnw2 : Calls Tryd.prog 28 #[ntV N B cb] (w6.alloc (.cells #[.int .i64 N.n, .slice B N.l.length cb] 24)) fun e w' => e = .returned (.tuple #[.pointer none, .int .i64 E]) ∧ Below (w6.alloc (.cells #[.int .i64 N.n, .slice B N.l.length cb] 24)).heap.size (w6.alloc (.cells #[.int .i64 N.n, .slice B N.l.length cb] 24)) w' := hnw.mono fun e w' h => h.elim (fun h => absurd h.1 he) (fun h => by rw [← hE]; exact h.2)
      rw [hE] at hrf he
      have hb1 : (E != 0) = true := bne_iff_ne.2 he
      have hb2 : (E == 0) = false := beq_eq_false_iff_ne.2 he
      have HNW := Lib.hid hnw2
      have HRF := Lib.hid hrf
      clear hnw hnw2 hrf hE hcn hcn6 q5 n1 n2
      go_wp2_with fail
      refine HNW.out.mono ?_
      rintro e w8 ⟨rfl, hb8⟩
      have q8 := q7.below hb8
      have n1 := q8.tail.is0 0 (by decide) (.int .i64 N.n) rfl
      have n2 := q8.tail.is0 1 (by decide) (.slice A N.l.length c) rfl
      have hz8 := q8.lt0
      clear HNW q6
      go_wp2_with fail
      refine (HRF.out _ q8.base).mono ?_
      rintro e w9 ⟨rfl, hb9⟩
      have q9 := q8.below hb9
      go_wp2_with fail
      refine (HWK.out _ q9.base).mono ?_
      rintro e w10 ⟨rfl, hb10⟩
      go_wp2
      go_ret
      exact ⟨rfl, (q9.below hb10).bl⟩
end Go.Proofs.YtemgfhdgpkmmaaaDoor
