import Derived.Test.YtmhllppjcilllaaGreatDoorGb
set_option linter.unusedSimpArgs false
set_option linter.unusedVariables false
open Go Go.RowKit Cs
namespace Cs
open Go.Proofs.YtmhllppjcilllaaGreatDoor
theorem bytes_list (a : ByteArray) : a.toList = a.data.toList := by simp [ByteArray.toList_eq]
theorem txt0 {n d : Nat} (h : (Go.Proofs.YtmhllppjcilllaaGreatDoor.ptext n d).toList = [48]) : n = 0 := by
 unfold Go.Proofs.YtmhllppjcilllaaGreatDoor.ptext at h;split at h
 ·refine dec_inj ?_;rw [dec_zero];apply ByteArray.ext;apply Array.ext';rw [← bytes_list, h]
 ·exfalso
  have h2 := congrArg List.length h
  have h3 : (dec n ++ ⟨#[47]⟩ ++ dec d).toList.length = (dec n).size + 1 + (dec d).size := by
   rw [bytes_list, Array.length_toList];show (dec n ++ ⟨#[47]⟩ ++ dec d).size = _;rw [ByteArray.size_append, ByteArray.size_append]
   rfl
  rw [h3, dec_size, dec_size] at h2
  have a : decN n ≠ 0 := by
   by_cases hz : n = 0
   ·subst hz; decide +kernel
   ·rw [decN_pos n (by omega)];exact fun e => hz ((nd_zero_iff 10 (by decide) n).1 e)
  simp at h2;omega
theorem askB_in {N : Nt} {lt : Nat} (h : askB N lt = true) : ∀ k (hk : k < N.l.length), N.l[k].ins.length ≤ 1000000 := fun k hk => by
 unfold askB lightB slim at h;rw [Bool.and_eq_true, Bool.and_eq_true, Bool.and_eq_true, List.all_eq_true] at h;have := h.1.1.1 N.l[k] (List.getElem_mem hk);simp only [decide_eq_true_eq] at this;omega
theorem askB_8 {N : Nt} {lt : Nat} (h : askB N lt = true) (hv : vld N = true) : N.n ≤ 8 := by
 unfold askB at h;rw [Bool.and_eq_true, hv] at h
 simpa using h.2
end Cs
namespace Go.Proofs.YtmhllppjcilllaaGreatDoor
theorem aw_hyp (w : World) (N : Nt) (A : Option Addr) (c : Nat) (Aw : Option Addr) (lw cw : Nat) (At : Option Addr) (lt ct : Nat) (F : Nat → Nat) (hlw : lw ≤ 140737488355328) (hw : Rd w w.heap.size Aw (lw * 4) (fun i => .int .u8 (F i : Nat))) (hF : ∀ i, F i < 256) (n : Nat) (hn : N.n = (n : Int)) (h8 : n ≤ 128) :
  ∀ W, Below w.heap.size w W → Calls Tryz.prog 17 #[askV N A c Aw lw cw At lt ct] W fun e w' => ∃ v g1 c1 g2 c2 F1 F2, e = .returned v ∧ WtV W.heap.size (n + 1) (awL lw F (n + 1)) (awH lw F (n + 1)) v g1 c1 g2 c2 F1 F2 w' ∧ Below W.heap.size W w' := fun W h => by
 refine (askW_any W N A c Aw lw cw At lt ct F hlw ((hw.below h).more h.size) hF (n + 1) (by omega)).mono ?_;rintro e w' ⟨s1, s2, rfl, hq⟩;obtain ⟨g1, c1, g2, c2, F1, F2, hv⟩ := hq.wt (Nat.succ_pos _);exact ⟨_, g1, c1, g2, c2, F1, F2, rfl, hv, hq.bl⟩
theorem adds_any (w : World) (hT : Tab w) (N : Nt) (A : Option Addr) (c : Nat) (Aw : Option Addr) (lw cw : Nat) (At : Option Addr) (lt ct : Nat) (F : Nat → Nat) (hlen : N.l.length ≤ 140737488355328) (hN : NtAt w w.heap.size A N.l)
  (hlw : lw ≤ 140737488355328) (hw : Rd w w.heap.size Aw (lw * 4) (fun i => .int .u8 (F i : Nat))) (hF : ∀ i, F i < 256) (pk sg mo : Nat) (hpk : pk < 256) (hsg : sg < 256) (hmo : mo < 256) :
  Calls Tryz.prog 6 #[askV N A c Aw lw cw At lt ct, .int .u8 (pk : Int), .int .u8 (sg : Int), .int .u8 (mo : Int)] w fun e w' => e = .returned (.bool true) ∧ Below w.heap.size w w' := by
 by_cases hl : askB N lt = true
 case neg => exact adds_no w hT N A c Aw lw cw At lt ct hlen hN pk sg mo (Or.inl (by simpa using hl))
 by_cases hd0 : (vld N && dcmp N) = true
 case neg => exact adds_no w hT N A c Aw lw cw At lt ct hlen hN pk sg mo (Or.inr (by simpa using hd0))
 have hvd := hd0;rw [Bool.and_eq_true] at hvd;obtain ⟨hv, hd⟩ := hvd;obtain ⟨hn0, hn1, hl0, hl1⟩ := vld_bounds hv;have h8 := askB_8 hl hv;have hin := askB_in hl;obtain ⟨n, hn⟩ : ∃ n : Nat, N.n = n := ⟨N.n.toNat, by omega⟩
 have hn8 : n ≤ 8 := by omega
 have haw := aw_hyp w N A c Aw lw cw At lt ct F hlw hw hF n hn (by omega);have hW := aw_in lw F n;have hb := aw_bits lw F n (by omega);obtain ⟨L, hL⟩ : ∃ L, awL lw F (n + 1) = L := ⟨_, rfl⟩;obtain ⟨H, hH⟩ : ∃ H, awH lw F (n + 1) = H := ⟨_, rfl⟩;rw [hL, hH] at haw hW hb;have hwf : wfit N n L H = cchk N := wfit_bits hb;rcases cchk_dcmp hd hv with hE | hE
 ·have hE0 : wfit N n L H = 0 := hwf.trans hE;obtain ⟨_, hs⟩ := cchk_zero hv hE;have ok := hW.ok hb;have hTl := RP_Lp ok N;have hTs := sum_sp ok hv hd hs hn;have htb0 : termB N.n [] = true := rfl;refine adds_main w hT N A c Aw lw cw At lt ct hlen hN pk sg mo (n + 1) L H (by omega) haw hl hd0 n hn rfl hpk hsg hmo hn8 ((RP n L H).sum N) (lowP N n L H n) (highP N n L H n) ?_ ?_ ?_ (shareR N n L H []).1 (shareR N n L H []).2 ?_ (ptext ((RP n L H).sum N).1 ((RP n L H).sum N).2) ?_ (ptext 1 1) (shP N n L H) ?_ ?_ ?_ ?_ ?_ ?_
  ·exact fun W b9 b10 g1 c1 g2 c2 h m1 m2 => total_fit W N A c c1 c2 n L H _ _ h.nt hv hn h.tb hin hW h.rl h.rh m1 m2 _ 0 hE0.symm (by rw [if_pos rfl])
  ·intro W b9 b10 g1 c1 g2 c2 h m1 m2;refine (bylit_fit W N A c c1 c2 n L H _ _ h.nt hv hn h.tb hin hW h.rl h.rh m1 m2 hE0).mono ?_;rintro e w' ⟨gl, gh, rfl, _, _, r1, r2, hb'⟩;exact ⟨gl, gh, rfl, r1, r2, hb'⟩
  ·intro k hk1 hk2;obtain ⟨q1, q2, q3⟩ := lh_sum hW hb hv hd hs hn hk1 (show k ≤ n by omega);refine ⟨pq (qp ((lowP N n L H n).getD k (0, 0)) + qp ((highP N n L H n).getD k (0, 0))), fun W => qadd_any W _ _ _ _ q2.1 q2.2 q3.1 q3.2, fun W => ?_⟩;rw [q1];exact same_any W _ _ ⟨Lp.pq (qp_nonneg _), hTs.canon hTl⟩ ⟨hTl, hTs⟩ (qp_pq (qp_nonneg _))
  ·exact fun W b9 b10 g1 c1 g2 c2 h m1 m2 => share_fit W N A c c1 c2 0 n L H [] _ _ none h.nt hv hn h.tb hin hW h.rl h.rh m1 m2 (fun h => absurd h (by simp)) (by simp) (fun x hx => by cases hx)
  ·exact fun W => qtext_any W _ _ hTs.1 hTs.2
  ·intro h0 W;rw [shareR_ok htb0 hE0 h0, sh_whole hW h0 hb];exact qtext_any W 1 1 (Nat.le_trans (n8_64 (by decide)) (by decide)) (Nat.le_trans (n8_64 (by decide)) (by decide))
  ·decide +kernel
  ·intro h0 W b9 b10 g1 c1 g2 c2 h m1 m2 t At' ct' htl htb hr hrd;have := share_fit W N A c c1 c2 ct' n L H t _ _ At' h.nt hv hn h.tb hin hW h.rl h.rh m1 m2 hrd htl hr;rwa [shareR_ok htb hE0 h0] at this
  ·intro h0 t v hv1 hv2;obtain ⟨l1, s1⟩ := sh_sp hW hb hv hd hs hn (t ++ [(v : Int)]);obtain ⟨l2, s2⟩ := sh_sp hW hb hv hd hs hn ([-(v : Int), -(v : Int)] ++ t);obtain ⟨l3, s3⟩ := sh_sp hW hb hv hd hs hn t;have hsp := sh_split hW hb hv hd hn t hv1 hv2;refine ⟨pq (qp (shP N n L H (t ++ [(v : Int)])) + qp (shP N n L H ([-(v : Int), -(v : Int)] ++ t))), fun W => qadd_any W _ _ _ _ s1.1 s1.2 s2.1 s2.2, fun W => ?_⟩;rw [hsp];exact same_any W _ _ ⟨Lp.pq (qp_nonneg _), s3.canon l3⟩ ⟨l3, s3⟩ (qp_pq (qp_nonneg _))
  ·intro h0;have e0 : qp ((RP n L H).sum N) = ((0 : Nat) : Rat) := (qp_zero_iff hTl).2 h0;refine ⟨?_, by rw [shareR_none htb0 hE0 h0]⟩;rw [lp_text hTl e0, dec_zero];decide +kernel
  ·intro h0;refine ⟨?_, by rw [shareR_ok htb0 hE0 h0]⟩;exact beq_eq_false_iff_ne.2 fun e => h0 (txt0 e)
 ·have hE2 : wfit N n L H = 2 := hwf.trans hE;refine adds_long w hT N A c Aw lw cw At lt ct hlen hN pk sg mo (n + 1) L H (by omega) haw hl hd0 ?_ ?_
  ·exact fun W b9 b10 g1 c1 g2 c2 h m1 m2 => total_fit W N A c c1 c2 n L H _ _ h.nt hv hn h.tb hin hW h.rl h.rh m1 m2 (0, 0) 2 hE2.symm (by rw [if_neg (by decide)])
  ·exact fun W b9 b10 g1 c1 g2 c2 h m1 m2 => bylit_err W N A c c1 c2 (n + 1) (n + 1) _ _ 2 (by decide) fun V hV => wcheck_fit V N A c c1 c2 n L H _ _ ((h.nt.below hV).more hV.size) hv hn (h.tb.below hV) ((h.rl.below hV).more hV.size) ((h.rh.below hV).more hV.size) hW.sl hW.sh m1 m2 2 hE2.symm
end Go.Proofs.YtmhllppjcilllaaGreatDoor
