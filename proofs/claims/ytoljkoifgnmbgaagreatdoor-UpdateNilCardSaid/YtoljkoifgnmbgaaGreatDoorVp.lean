import Derived.Test.YtoljkoifgnmbgaaGreatDoorVg
set_option linter.unusedSimpArgs false
set_option linter.unusedVariables false
open Go Go.RowKit Cs
namespace Go.Proofs.YtoljkoifgnmbgaaGreatDoor
abbrev allC (N : Nt) (n : Nat) (T : List Int) : List Nat := (RL n (cLo n T) (cHi n T)).all (own N.l) N.l
abbrev allW (N : Nt) (n : Nat) (lo hi : List Pr) (T : List Int) : List Pr := (RP n (wLo n lo T) (wHi n hi T)).all (own N.l) N.l
abbrev SesAt (w : World) (D E : Nat) (g : Sg) (N : Nt) (n : Nat) (lo hi : List Pr) (tv : Value) (T : List Int) (k : Int) : Prop :=
 SsAt w D E g N n lo hi tv T k (cLo n T) (cHi n T) (allC N n T) (wLo n lo T) (wHi n hi T) (allW N n lo hi T)
structure SesOk (N : Nt) (n : Nat) (lo hi : List Pr) (T : List Int) (D : Nat) : Prop where
 hv : vld N = true
 hd : dcmp N = true
 hs : shortB N = true
 hn : N.n = (n : Int)
 wt : WtIn n lo hi
 hb : ¬ 16384 < sumB lo n + sumB hi n
 tk : TOk n T
 tl : T.length ≤ 1000000
 tb : 1 < D
section
variable {w : World} {D E : Nat} {g : Sg} {N : Nt} {n : Nat} {lo hi : List Pr} {tv : Value} {T : List Int} {k : Int}
theorem SesOk.wok (h : SesOk N n lo hi T D) (S : List Int) : WtOk n (wLo n lo S) (wHi n hi S) := h.wt.okT h.hb S
theorem SesOk.c8 (h : SesOk N n lo hi T D) (S : List Int) (j : Nat) : n8 ((allC N n S).getD j 0) ≤ 100000 := n8_s (RL_all cLo_le cHi_le h.hs j)
theorem SesOk.w8 (h : SesOk N n lo hi T D) (S : List Int) (j : Nat) : Sp ((allW N n lo hi S).getD j (0, 0)) := by
 have e : allW N n lo hi S = scan ((RP n (wLo n lo S) (wHi n hi S)).step (own N.l)) [] (N.l.take N.l.length) := by rw [List.take_length]; rfl
 rw [e];exact p_at (h.wok S) h.hv h.hd h.hs h.hn N.l.length (zqn _) j
theorem Agr.whole {α : Type} {R S : Rg α} {v : Nat} (h : Agr R S v) (h1 : 1 ≤ v) {N : Nt} (hv : vld N = true) (j : Nat) (hj : j < N.l.length) (hb : ((own N.l).getD j 0).testBit (v - 1) = false) :
  (R.all (own N.l) N.l).getD j R.zero = (S.all (own N.l) N.l).getD j S.zero := by
 have := h.at h1 hv N.l.length (zqn _) j hj hb;rw [List.take_length] at this;exact this
theorem pushP_set (w : World) (l : Int) (hl : 0 < l) (h : SsAt w D E g N n lo hi tv (T ++ [l]) k (cLo n T) (cHi n T) (allC N n T) (wLo n lo T) (wHi n hi T) (allW N n lo hi T)) (ok : SesOk N n lo hi (T ++ [l]) D) (hT : Tab w) :
  Calls Tryz.prog 59 #[.pointer (some ⟨g.b, 0, none⟩), .int .i64 (-(l.natAbs : Int)), .bool true] w fun e w' => e = .returned (.tuple #[]) ∧ SesAt w' D E g N n lo hi tv (T ++ [l]) (tch N l.natAbs : Nat) ∧ Keep (g.b :: g.rows) w w' := by
 obtain ⟨hv1, hv2⟩ := ok.tk.last;have hout := ok.tk.out.1;have eC : cLo n (T ++ [l]) = (cLo n T).set l.natAbs 0 := (cLo_snoc hl);have eC2 : cHi n (T ++ [l]) = cHi n T := (cHi_same hl);have eW : wLo n lo (T ++ [l]) = (wLo n lo T).set l.natAbs (0, 0) := (wLo_snoc hl);have eW2 : wHi n hi (T ++ [l]) = wHi n hi T := (wHi_same hl)
 have := setN_any w l.natAbs 0 (0, 0) true h hT ok.tb ok.hv ok.hd ok.hs ok.hn hv1 hv2 rfl rfl
  (fun k => by rw [← eC]; exact cLo_le k) (fun k => by rw [← eC2]; exact cHi_le k)
  (by rw [← eW, ← eW2]; exact ok.wok (T ++ [l])) (fun k => by rw [← eW]; exact wLo_all Sp.zero ok.wt.sl k) (fun k => by rw [← eW2]; exact wHi_all Sp.zero ok.wt.sh k)
  (allC N n (T ++ [l])) (allW N n lo hi (T ++ [l])) (by rw [← eC, ← eC2]) (by rw [← eW, ← eW2]) (ok.c8 _) (ok.w8 _)
  (fun j hj hb => Agr.whole (agrC n T l) hv1 ok.hv j hj hb) (fun j hj hb => Agr.whole (agrW n lo hi T l) hv1 ok.hv j hj hb)
 rw [← eC, ← eC2, ← eW, ← eW2] at this;exact this
theorem pushN_set (w : World) (l : Int) (hl : l < 0) (h : SsAt w D E g N n lo hi tv (T ++ [l]) k (cLo n T) (cHi n T) (allC N n T) (wLo n lo T) (wHi n hi T) (allW N n lo hi T)) (ok : SesOk N n lo hi (T ++ [l]) D) (hT : Tab w) :
  Calls Tryz.prog 59 #[.pointer (some ⟨g.b, 0, none⟩), .int .i64 (l.natAbs : Int), .bool true] w fun e w' => e = .returned (.tuple #[]) ∧ SesAt w' D E g N n lo hi tv (T ++ [l]) (tch N l.natAbs : Nat) ∧ Keep (g.b :: g.rows) w w' := by
 obtain ⟨hv1, hv2⟩ := ok.tk.last;have hout := ok.tk.out.1;have eC : cHi n (T ++ [l]) = (cHi n T).set l.natAbs 0 := (cHi_snoc hl);have eC2 : cLo n (T ++ [l]) = cLo n T := (cLo_same hl);have eW : wHi n hi (T ++ [l]) = (wHi n hi T).set l.natAbs (0, 0) := (wHi_snoc hl);have eW2 : wLo n lo (T ++ [l]) = wLo n lo T := (wLo_same hl)
 have := setP_any w l.natAbs 0 (0, 0) true h hT ok.tb ok.hv ok.hd ok.hs ok.hn hv1 hv2 rfl rfl
  (fun k => by rw [← eC2]; exact cLo_le k) (fun k => by rw [← eC]; exact cHi_le k)
  (by rw [← eW, ← eW2]; exact ok.wok (T ++ [l])) (fun k => by rw [← eW2]; exact wLo_all Sp.zero ok.wt.sl k) (fun k => by rw [← eW]; exact wHi_all Sp.zero ok.wt.sh k)
  (allC N n (T ++ [l])) (allW N n lo hi (T ++ [l])) (by rw [← eC, ← eC2]) (by rw [← eW, ← eW2]) (ok.c8 _) (ok.w8 _)
  (fun j hj hb => Agr.whole (agrC n T l) hv1 ok.hv j hj hb) (fun j hj hb => Agr.whole (agrW n lo hi T l) hv1 ok.hv j hj hb)
 rw [← eC, ← eC2, ← eW, ← eW2] at this;exact this
theorem popP_set (w : World) (l : Int) (hl : 0 < l) (h : SsAt w D E g N n lo hi tv T k (cLo n (T ++ [l])) (cHi n (T ++ [l])) (allC N n (T ++ [l])) (wLo n lo (T ++ [l])) (wHi n hi (T ++ [l])) (allW N n lo hi (T ++ [l]))) (ok : SesOk N n lo hi (T ++ [l]) D) (hT : Tab w) :
  Calls Tryz.prog 59 #[.pointer (some ⟨g.b, 0, none⟩), .int .i64 (-(l.natAbs : Int)), .bool false] w fun e w' => e = .returned (.tuple #[]) ∧ SesAt w' D E g N n lo hi tv T (tch N l.natAbs : Nat) ∧ Keep (g.b :: g.rows) w w' := by
 obtain ⟨hv1, hv2⟩ := ok.tk.last;have hout := ok.tk.out.1;have eC : cLo n T = (cLo n (T ++ [l])).set l.natAbs 1 := (cLo_back hl hout);have eC2 : cHi n T = cHi n (T ++ [l]) := (cHi_same hl).symm;have eW : wLo n lo T = (wLo n lo (T ++ [l])).set l.natAbs (lo.getD l.natAbs (0, 0)) := (wLo_back hl hout);have eW2 : wHi n hi T = wHi n hi (T ++ [l]) := (wHi_same hl).symm
 have := setN_any w l.natAbs 1 (lo.getD l.natAbs (0, 0)) false h hT ok.tb ok.hv ok.hd ok.hs ok.hn hv1 hv2 rfl rfl
  (fun k => by rw [← eC]; exact cLo_le k) (fun k => by rw [← eC2]; exact cHi_le k)
  (by rw [← eW, ← eW2]; exact ok.wok T) (fun k => by rw [← eW]; exact wLo_all Sp.zero ok.wt.sl k) (fun k => by rw [← eW2]; exact wHi_all Sp.zero ok.wt.sh k)
  (allC N n T) (allW N n lo hi T) (by rw [← eC, ← eC2]) (by rw [← eW, ← eW2]) (ok.c8 _) (ok.w8 _)
  (fun j hj hb => Agr.whole (Agr.symm (agrC n T l)) hv1 ok.hv j hj hb) (fun j hj hb => Agr.whole (Agr.symm (agrW n lo hi T l)) hv1 ok.hv j hj hb)
 rw [← eC, ← eC2, ← eW, ← eW2] at this;exact this
theorem popN_set (w : World) (l : Int) (hl : l < 0) (h : SsAt w D E g N n lo hi tv T k (cLo n (T ++ [l])) (cHi n (T ++ [l])) (allC N n (T ++ [l])) (wLo n lo (T ++ [l])) (wHi n hi (T ++ [l])) (allW N n lo hi (T ++ [l]))) (ok : SesOk N n lo hi (T ++ [l]) D) (hT : Tab w) :
  Calls Tryz.prog 59 #[.pointer (some ⟨g.b, 0, none⟩), .int .i64 (l.natAbs : Int), .bool false] w fun e w' => e = .returned (.tuple #[]) ∧ SesAt w' D E g N n lo hi tv T (tch N l.natAbs : Nat) ∧ Keep (g.b :: g.rows) w w' := by
 obtain ⟨hv1, hv2⟩ := ok.tk.last;have hout := ok.tk.out.1;have eC : cHi n T = (cHi n (T ++ [l])).set l.natAbs 1 := (cHi_back hl hout);have eC2 : cLo n T = cLo n (T ++ [l]) := (cLo_same hl).symm;have eW : wHi n hi T = (wHi n hi (T ++ [l])).set l.natAbs (hi.getD l.natAbs (0, 0)) := (wHi_back hl hout);have eW2 : wLo n lo T = wLo n lo (T ++ [l]) := (wLo_same hl).symm
 have := setP_any w l.natAbs 1 (hi.getD l.natAbs (0, 0)) false h hT ok.tb ok.hv ok.hd ok.hs ok.hn hv1 hv2 rfl rfl
  (fun k => by rw [← eC2]; exact cLo_le k) (fun k => by rw [← eC]; exact cHi_le k)
  (by rw [← eW, ← eW2]; exact ok.wok T) (fun k => by rw [← eW2]; exact wLo_all Sp.zero ok.wt.sl k) (fun k => by rw [← eW]; exact wHi_all Sp.zero ok.wt.sh k)
  (allC N n T) (allW N n lo hi T) (by rw [← eC, ← eC2]) (by rw [← eW, ← eW2]) (ok.c8 _) (ok.w8 _)
  (fun j hj hb => Agr.whole (Agr.symm (agrC n T l)) hv1 ok.hv j hj hb) (fun j hj hb => Agr.whole (Agr.symm (agrW n lo hi T l)) hv1 ok.hv j hj hb)
 rw [← eC, ← eC2, ← eW, ← eW2] at this;exact this
theorem push_set (w : World) (l m : Int) (hm : m = -l) (h : SsAt w D E g N n lo hi tv (T ++ [l]) k (cLo n T) (cHi n T) (allC N n T) (wLo n lo T) (wHi n hi T) (allW N n lo hi T)) (ok : SesOk N n lo hi (T ++ [l]) D) (hT : Tab w) :
  Calls Tryz.prog 59 #[.pointer (some ⟨g.b, 0, none⟩), .int .i64 m, .bool true] w fun e w' => e = .returned (.tuple #[]) ∧ SesAt w' D E g N n lo hi tv (T ++ [l]) (tch N l.natAbs : Nat) ∧ Keep (g.b :: g.rows) w w' := by
 obtain ⟨hv1, hv2⟩ := ok.tk.last;by_cases hl : 0 < l
 ·have e : m = -(l.natAbs : Int) := by omega
  rw [e]; exact pushP_set w l hl h ok hT
 ·have e : m = (l.natAbs : Int) := by omega
  rw [e]; exact pushN_set w l (by omega) h ok hT
theorem pop_set (w : World) (l m : Int) (hm : m = -l) (h : SsAt w D E g N n lo hi tv T k (cLo n (T ++ [l])) (cHi n (T ++ [l])) (allC N n (T ++ [l])) (wLo n lo (T ++ [l])) (wHi n hi (T ++ [l])) (allW N n lo hi (T ++ [l]))) (ok : SesOk N n lo hi (T ++ [l]) D) (hT : Tab w) :
  Calls Tryz.prog 59 #[.pointer (some ⟨g.b, 0, none⟩), .int .i64 m, .bool false] w fun e w' => e = .returned (.tuple #[]) ∧ SesAt w' D E g N n lo hi tv T (tch N l.natAbs : Nat) ∧ Keep (g.b :: g.rows) w w' := by
 obtain ⟨hv1, hv2⟩ := ok.tk.last;by_cases hl : 0 < l
 ·have e : m = -(l.natAbs : Int) := by omega
  rw [e]; exact popP_set w l hl h ok hT
 ·have e : m = (l.natAbs : Int) := by omega
  rw [e]; exact popN_set w l (by omega) h ok hT
end
end Go.Proofs.YtoljkoifgnmbgaaGreatDoor
