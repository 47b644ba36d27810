/- The walk of rat.Read. rat.Read: what it returns for every text. -/
import Derived.Test.YtgnobohfnhpkdaaGreatDoorTc
/-! The walk of rat.Read. -/
section
set_option linter.unusedSimpArgs false
set_option linter.unusedVariables false
open Go Go.RowKit Cs
namespace Cs
theorem ptext_q {q : Rat} : Go.Proofs.YtgnobohfnhpkdaaGreatDoor.ptext (qn q) q.den = qtext q := by
  unfold Go.Proofs.YtgnobohfnhpkdaaGreatDoor.ptext qtext
  rw [qd_of (Rat.den_pos q)]
end Cs
namespace Go.Proofs.YtgnobohfnhpkdaaGreatDoor
/-- What rat.Read returns. -/
def rdV (N D : Nat) : Value := .tuple #[ratV N D, .bool true]
def rdNo : Value := .tuple #[ratV 0 0, .bool false]
/-- A number's reading: value and success. -/
def NR (s : ByteArray) (V : Nat) (ok : Bool) : Prop := ∀ W, Calls Tryz.prog 71 #[.string s] W fun e w' => e = .returned (.tuple #[natV V, .bool ok]) ∧ Below W.heap.size W w'
theorem nr_yes {s : ByteArray} (h : IsNum s) : NR s (numV s) true := fun W => nread_good W s h
theorem nr_no {s : ByteArray} (h : ¬ IsNum s) : NR s 0 false := fun W => nread_bad W s h
def CT (s n d : ByteArray) (b : Bool) : Prop := ∀ W, Calls Tryz.prog 70 #[.string s, .string ⟨#[47]⟩] W fun e w' => e = .returned (.tuple #[.string n, .string d, .bool b]) ∧ Below W.heap.size W w'
def NW (V D N M : Nat) (ok : Bool) : Prop := ∀ W, Calls Tryz.prog 72 #[natV V, natV D] W fun e w' => e = .returned (.tuple #[ratV N M, .bool ok]) ∧ Below W.heap.size W w'
def TX (N M : Nat) (t : ByteArray) : Prop := ∀ W, Calls Tryz.prog 73 #[ratV N M] W fun e w' => e = .returned (.string t) ∧ Below W.heap.size W w'
theorem n8_one : n8 1 ≤ 1 := (n8_le _ _).2 (by decide)
theorem toList_inj {a b : ByteArray} (h : a.toList = b.toList) : a = b := by
  have h2 : a.data.toList = b.data.toList := by rwa [ByteArray.toList_eq, ByteArray.toList_eq] at h
  exact ByteArray.ext (Array.toList_inj.1 h2)
set_option maxRecDepth 100000 in
set_option maxHeartbeats 2000000 in
/-- Without a slash, no number. -/
theorem qread_w1 (w : World) (s d : ByteArray) (b : Bool) (V : Nat) (hct : CT s s d b) (hrc : NR s V false) :
    Calls Tryz.prog 39 #[.string s] w fun e w' => e = .returned rdNo ∧ Below w.heap.size w w' := by
  have hone := fun W => of_any W 1 (by decide)
  have HCT := Lib.hid hct
  have HRC := Lib.hid hrc
  have HON := Lib.hid hone
  clear hct hrc hone
  have r0 := ratZero w 74 w.heap.size rfl
  have hb0 := (Below.refl w.heap.size w).alloc (Nat.le_refl _) (.cells #[.string ⟨#[]⟩, .string ⟨#[]⟩] 74)
  go_enter Tryz.func39, Tryz.ntmps39
  go_wp2_with fail
  refine (HCT.out _).mono ?_
  rintro e w1 ⟨rfl, hb1⟩
  have z1 := hb1.size
  simp at z1
  replace r0 := rowBelow r0 hb1
  replace hb0 := hb0.trans (hb1.mono (by simp))
  go_wp2_with fail
  refine (HRC.out _).mono ?_
  rintro e w2 ⟨rfl, hb2⟩
  have z2 := hb2.size
  replace r0 := (rowBelow r0 hb2).alloc (.cells #[.string (natB V)] 59)
  replace hb0 := (hb0.trans (hb2.mono (by omega))).alloc (by omega) (.cells #[.string (natB V)] 59)
  have r1 := boxNew w2 (.string (natB V)) 59 w2.heap.size rfl
  go_wp2_with fail
  refine (HON.out _).mono ?_
  rintro e w3 ⟨rfl, hb3⟩
  have z3 := hb3.size
  simp at z3
  replace r0 := (rowBelow r0 hb3).alloc (.cells #[.string (natB 1)] 59)
  replace hb0 := (hb0.trans (hb3.mono (by simp; omega))).alloc (by omega) (.cells #[.string (natB 1)] 59)
  replace r1 := (rowBelow r1 hb3).alloc (.cells #[.string (natB 1)] 59)
  have r2 := boxNew w3 (.string (natB 1)) 59 w3.heap.size rfl
  have z4 : (w3.alloc (.cells #[.string (natB 1)] 59)).heap.size = w3.heap.size + 1 := by simp
  have n02 : w.heap.size ≠ w2.heap.size := by omega
  have n03 : w.heap.size ≠ w3.heap.size := by omega
  have n23 : w2.heap.size ≠ w3.heap.size := by omega
  have l0 : w.heap.size ≤ w2.heap.size := by omega
  have l1 : w.heap.size ≤ w3.heap.size := by omega
  have l4 : w.heap.size ≤ (w3.alloc (.cells #[.string (natB 1)] 59)).heap.size := by omega
  clear hb1 hb2 hb3 z1 z2 z3
  generalize w2.heap.size = B2 at *
  obtain ⟨c0, c1⟩ := ratCells r0
  have f0 := r0.frozen 0
  have f1 := r0.frozen 1
  go_wp2_with fail
  have hs := ratSet r0 0 0
  rw [natB_zero] at hs
  exact ret_rat_slot rfl 0 0 rfl rfl hs rfl ⟨rfl, (hb0.setCell (Nat.le_refl _) _).setCell (Nat.le_refl _) _⟩
set_option maxRecDepth 100000 in
set_option maxHeartbeats 2000000 in
/-- Without a slash, a number. -/
theorem qread_w2 (w : World) (s d : ByteArray) (b : Bool) (V N M : Nat) (hct : CT s s d b) (hrc : NR s V true) (hnw : NW V 1 N M true) (htx : TX N M s) :
    Calls Tryz.prog 39 #[.string s] w fun e w' => e = .returned (rdV N M) ∧ Below w.heap.size w w' := by
  have hone := fun W => of_any W 1 (by decide)
  have HCT := Lib.hid hct
  have HRC := Lib.hid hrc
  have HON := Lib.hid hone
  have HNW := Lib.hid hnw
  have HTX := Lib.hid htx
  clear hct hrc hone hnw htx
  have r0 := ratZero w 74 w.heap.size rfl
  have hb0 := (Below.refl w.heap.size w).alloc (Nat.le_refl _) (.cells #[.string ⟨#[]⟩, .string ⟨#[]⟩] 74)
  go_enter Tryz.func39, Tryz.ntmps39
  go_wp2_with fail
  refine (HCT.out _).mono ?_
  rintro e w1 ⟨rfl, hb1⟩
  have z1 := hb1.size
  simp at z1
  replace r0 := rowBelow r0 hb1
  replace hb0 := hb0.trans (hb1.mono (by simp))
  go_wp2_with fail
  refine (HRC.out _).mono ?_
  rintro e w2 ⟨rfl, hb2⟩
  have z2 := hb2.size
  replace r0 := (rowBelow r0 hb2).alloc (.cells #[.string (natB V)] 59)
  replace hb0 := (hb0.trans (hb2.mono (by omega))).alloc (by omega) (.cells #[.string (natB V)] 59)
  have r1 := boxNew w2 (.string (natB V)) 59 w2.heap.size rfl
  go_wp2_with fail
  refine (HON.out _).mono ?_
  rintro e w3 ⟨rfl, hb3⟩
  have z3 := hb3.size
  simp at z3
  replace r0 := (rowBelow r0 hb3).alloc (.cells #[.string (natB 1)] 59)
  replace hb0 := (hb0.trans (hb3.mono (by simp; omega))).alloc (by omega) (.cells #[.string (natB 1)] 59)
  replace r1 := (rowBelow r1 hb3).alloc (.cells #[.string (natB 1)] 59)
  have r2 := boxNew w3 (.string (natB 1)) 59 w3.heap.size rfl
  have z4 : (w3.alloc (.cells #[.string (natB 1)] 59)).heap.size = w3.heap.size + 1 := by simp
  have n02 : w.heap.size ≠ w2.heap.size := by omega
  have n03 : w.heap.size ≠ w3.heap.size := by omega
  have n23 : w2.heap.size ≠ w3.heap.size := by omega
  have l0 : w.heap.size ≤ w2.heap.size := by omega
  have l1 : w.heap.size ≤ w3.heap.size := by omega
  have l4 : w.heap.size ≤ (w3.alloc (.cells #[.string (natB 1)] 59)).heap.size := by omega
  clear hb1 hb2 hb3 z1 z2 z3
  generalize w2.heap.size = B2 at *
  have c1 := boxCell r1
  have c2 := boxCell r2
  go_wp2_with fail
  refine (HNW.out _).mono ?_
  rintro e w7 ⟨rfl, hb7⟩
  have z7 := hb7.size
  replace r0 := (rowBelow r0 hb7).alloc (.cells #[.string (natB N), .string (natB M)] 74)
  replace hb0 := (hb0.trans (hb7.mono l4)).alloc (by omega) (.cells #[.string (natB N), .string (natB M)] 74)
  have r4 := ratNew w7 N M 74 w7.heap.size rfl
  clear c1 c2 r1 r2
  obtain ⟨e0, e1⟩ := ratCells r4
  go_wp2_with fail
  refine (HTX.out _).mono ?_
  rintro e w8 ⟨rfl, hb8⟩
  have z8 := hb8.size
  simp at z8
  replace r0 := rowBelow r0 hb8
  replace r4 := rowBelow r4 hb8
  replace hb0 := hb0.trans (hb8.mono (by simp; omega))
  clear e0 e1
  obtain ⟨e0, e1⟩ := ratCells r4
  obtain ⟨d0, d1⟩ := ratCells r0
  have f0 := r0.frozen 0
  have f1 := r0.frozen 1
  go_wp2_with fail
  exact ret_rat_slot rfl N M rfl rfl (ratSet r0 N M) rfl ⟨rfl, (hb0.setCell (Nat.le_refl _) _).setCell (Nat.le_refl _) _⟩
set_option maxRecDepth 100000 in
set_option maxHeartbeats 2000000 in
/-- With a slash, no two numbers. -/
theorem qread_w3 (w : World) (s n d : ByteArray) (b : Bool) (V D : Nat) (ok okd : Bool) (hne : n ≠ s) (hct : CT s n d b) (hrc : NR n V ok) (hrd : NR d D okd) (hok : (ok && okd) = false) :
    Calls Tryz.prog 39 #[.string s] w fun e w' => e = .returned rdNo ∧ Below w.heap.size w w' := by
  have hneB : (n.toList == s.toList) = false := beq_eq_false_iff_ne.2 fun e => hne (toList_inj e)
  have hone := fun W => of_any W 1 (by decide)
  have HCT := Lib.hid hct
  have HRC := Lib.hid hrc
  have HON := Lib.hid hone
  have HRD := Lib.hid hrd
  clear hct hrc hone hrd
  have r0 := ratZero w 74 w.heap.size rfl
  have hb0 := (Below.refl w.heap.size w).alloc (Nat.le_refl _) (.cells #[.string ⟨#[]⟩, .string ⟨#[]⟩] 74)
  go_enter Tryz.func39, Tryz.ntmps39
  go_wp2_with fail
  refine (HCT.out _).mono ?_
  rintro e w1 ⟨rfl, hb1⟩
  have z1 := hb1.size
  simp at z1
  replace r0 := rowBelow r0 hb1
  replace hb0 := hb0.trans (hb1.mono (by simp))
  go_wp2_with fail
  refine (HRC.out _).mono ?_
  rintro e w2 ⟨rfl, hb2⟩
  have z2 := hb2.size
  replace r0 := (rowBelow r0 hb2).alloc (.cells #[.string (natB V)] 59)
  replace hb0 := (hb0.trans (hb2.mono (by omega))).alloc (by omega) (.cells #[.string (natB V)] 59)
  have r1 := boxNew w2 (.string (natB V)) 59 w2.heap.size rfl
  go_wp2_with fail
  refine (HON.out _).mono ?_
  rintro e w3 ⟨rfl, hb3⟩
  have z3 := hb3.size
  simp at z3
  replace r0 := (rowBelow r0 hb3).alloc (.cells #[.string (natB 1)] 59)
  replace hb0 := (hb0.trans (hb3.mono (by simp; omega))).alloc (by omega) (.cells #[.string (natB 1)] 59)
  replace r1 := (rowBelow r1 hb3).alloc (.cells #[.string (natB 1)] 59)
  have r2 := boxNew w3 (.string (natB 1)) 59 w3.heap.size rfl
  have z4 : (w3.alloc (.cells #[.string (natB 1)] 59)).heap.size = w3.heap.size + 1 := by simp
  have n02 : w.heap.size ≠ w2.heap.size := by omega
  have n03 : w.heap.size ≠ w3.heap.size := by omega
  have n23 : w2.heap.size ≠ w3.heap.size := by omega
  have l0 : w.heap.size ≤ w2.heap.size := by omega
  have l1 : w.heap.size ≤ w3.heap.size := by omega
  have l4 : w.heap.size ≤ (w3.alloc (.cells #[.string (natB 1)] 59)).heap.size := by omega
  clear hb1 hb2 hb3 z1 z2 z3
  generalize w2.heap.size = B2 at *
  go_wp2_with fail
  refine (HRD.out _).mono ?_
  rintro e w5 ⟨rfl, hb5⟩
  have z5 := hb5.size
  replace r0 := (rowBelow r0 hb5).setOther (a := ⟨w3.heap.size, 0, none⟩) n03 (.string (natB D))
  replace r1 := (rowBelow r1 hb5).setOther (a := ⟨w3.heap.size, 0, none⟩) n23 (.string (natB D))
  replace hb0 := (hb0.trans (hb5.mono l4)).setCell (p := ⟨w3.heap.size, 0, none⟩) l1 (.string (natB D))
  replace r2 := rowBelow r2 hb5
  have c2 := boxCell r2
  have f2 := r2.frozen 0
  replace r2 := boxSet r2 (.string (natB D))
  have z6 : (w5.setCell ⟨w3.heap.size, 0, none⟩ (.string (natB D))).heap.size = w5.heap.size := size_setCell _ _ _
  replace l4 : w.heap.size ≤ w5.heap.size := by omega
  obtain ⟨c0, c1⟩ := ratCells r0
  have f0 := r0.frozen 0
  have f1 := r0.frozen 1
  cases ok <;> cases okd
  · clear hok
    go_wp2_with fail
    have hs := ratSet r0 0 0
    rw [natB_zero] at hs
    exact ret_rat_slot rfl 0 0 rfl rfl hs rfl ⟨rfl, (hb0.setCell (Nat.le_refl _) _).setCell (Nat.le_refl _) _⟩
  · clear hok
    go_wp2_with fail
    have hs := ratSet r0 0 0
    rw [natB_zero] at hs
    exact ret_rat_slot rfl 0 0 rfl rfl hs rfl ⟨rfl, (hb0.setCell (Nat.le_refl _) _).setCell (Nat.le_refl _) _⟩
  · clear hok
    go_wp2_with fail
    have hs := ratSet r0 0 0
    rw [natB_zero] at hs
    exact ret_rat_slot rfl 0 0 rfl rfl hs rfl ⟨rfl, (hb0.setCell (Nat.le_refl _) _).setCell (Nat.le_refl _) _⟩
  · cases hok
set_option maxRecDepth 100000 in
set_option maxHeartbeats 2000000 in
/-- Two numbers, no fraction. -/
theorem qread_w4 (w : World) (s n d : ByteArray) (b : Bool) (V D : Nat) (hne : n ≠ s) (hct : CT s n d b) (hrc : NR n V true) (hrd : NR d D true) (hnw : NW V D 0 0 false) :
    Calls Tryz.prog 39 #[.string s] w fun e w' => e = .returned rdNo ∧ Below w.heap.size w w' := by
  have hneB : (n.toList == s.toList) = false := beq_eq_false_iff_ne.2 fun e => hne (toList_inj e)
  have hone := fun W => of_any W 1 (by decide)
  have HCT := Lib.hid hct
  have HRC := Lib.hid hrc
  have HON := Lib.hid hone
  have HRD := Lib.hid hrd
  have HNW := Lib.hid hnw
  clear hct hrc hone hrd hnw
  have r0 := ratZero w 74 w.heap.size rfl
  have hb0 := (Below.refl w.heap.size w).alloc (Nat.le_refl _) (.cells #[.string ⟨#[]⟩, .string ⟨#[]⟩] 74)
  go_enter Tryz.func39, Tryz.ntmps39
  go_wp2_with fail
  refine (HCT.out _).mono ?_
  rintro e w1 ⟨rfl, hb1⟩
  have z1 := hb1.size
  simp at z1
  replace r0 := rowBelow r0 hb1
  replace hb0 := hb0.trans (hb1.mono (by simp))
  go_wp2_with fail
  refine (HRC.out _).mono ?_
  rintro e w2 ⟨rfl, hb2⟩
  have z2 := hb2.size
  replace r0 := (rowBelow r0 hb2).alloc (.cells #[.string (natB V)] 59)
  replace hb0 := (hb0.trans (hb2.mono (by omega))).alloc (by omega) (.cells #[.string (natB V)] 59)
  have r1 := boxNew w2 (.string (natB V)) 59 w2.heap.size rfl
  go_wp2_with fail
  refine (HON.out _).mono ?_
  rintro e w3 ⟨rfl, hb3⟩
  have z3 := hb3.size
  simp at z3
  replace r0 := (rowBelow r0 hb3).alloc (.cells #[.string (natB 1)] 59)
  replace hb0 := (hb0.trans (hb3.mono (by simp; omega))).alloc (by omega) (.cells #[.string (natB 1)] 59)
  replace r1 := (rowBelow r1 hb3).alloc (.cells #[.string (natB 1)] 59)
  have r2 := boxNew w3 (.string (natB 1)) 59 w3.heap.size rfl
  have z4 : (w3.alloc (.cells #[.string (natB 1)] 59)).heap.size = w3.heap.size + 1 := by simp
  have n02 : w.heap.size ≠ w2.heap.size := by omega
  have n03 : w.heap.size ≠ w3.heap.size := by omega
  have n23 : w2.heap.size ≠ w3.heap.size := by omega
  have l0 : w.heap.size ≤ w2.heap.size := by omega
  have l1 : w.heap.size ≤ w3.heap.size := by omega
  have l4 : w.heap.size ≤ (w3.alloc (.cells #[.string (natB 1)] 59)).heap.size := by omega
  clear hb1 hb2 hb3 z1 z2 z3
  generalize w2.heap.size = B2 at *
  go_wp2_with fail
  refine (HRD.out _).mono ?_
  rintro e w5 ⟨rfl, hb5⟩
  have z5 := hb5.size
  replace r0 := (rowBelow r0 hb5).setOther (a := ⟨w3.heap.size, 0, none⟩) n03 (.string (natB D))
  replace r1 := (rowBelow r1 hb5).setOther (a := ⟨w3.heap.size, 0, none⟩) n23 (.string (natB D))
  replace hb0 := (hb0.trans (hb5.mono l4)).setCell (p := ⟨w3.heap.size, 0, none⟩) l1 (.string (natB D))
  replace r2 := rowBelow r2 hb5
  have c2 := boxCell r2
  have f2 := r2.frozen 0
  replace r2 := boxSet r2 (.string (natB D))
  have z6 : (w5.setCell ⟨w3.heap.size, 0, none⟩ (.string (natB D))).heap.size = w5.heap.size := size_setCell _ _ _
  replace l4 : w.heap.size ≤ w5.heap.size := by omega
  have c1 := boxCell r1
  have c2 := boxCell r2
  go_wp2_with fail
  refine (HNW.out _).mono ?_
  rintro e w7 ⟨rfl, hb7⟩
  have z7 := hb7.size
  replace r0 := (rowBelow r0 hb7).alloc (.cells #[.string (natB 0), .string (natB 0)] 74)
  replace hb0 := (hb0.trans (hb7.mono (by omega))).alloc (by omega) (.cells #[.string (natB 0), .string (natB 0)] 74)
  have r4 := ratNew w7 0 0 74 w7.heap.size rfl
  clear c1 c2 r1 r2
  obtain ⟨d0, d1⟩ := ratCells r0
  have f0 := r0.frozen 0
  have f1 := r0.frozen 1
  go_wp2_with fail
  have hs := ratSet r0 0 0
  rw [natB_zero] at hs hb0 ⊢
  exact ret_rat_slot rfl 0 0 rfl rfl hs rfl ⟨rfl, (hb0.setCell (Nat.le_refl _) _).setCell (Nat.le_refl _) _⟩
set_option maxRecDepth 100000 in
set_option maxHeartbeats 2000000 in
/-- A fraction that is not written so. -/
theorem qread_w5 (w : World) (s n d : ByteArray) (b : Bool) (V D N M : Nat) (hne : n ≠ s) (hct : CT s n d b) (hrc : NR n V true) (hrd : NR d D true) (hnw : NW V D N M true) (t : ByteArray) (htx : TX N M t) (hts : t ≠ s) :
    Calls Tryz.prog 39 #[.string s] w fun e w' => e = .returned rdNo ∧ Below w.heap.size w w' := by
  have hneB : (n.toList == s.toList) = false := beq_eq_false_iff_ne.2 fun e => hne (toList_inj e)
  have htB : (t.toList == s.toList) = false := beq_eq_false_iff_ne.2 fun e => hts (toList_inj e)
  have hone := fun W => of_any W 1 (by decide)
  have HCT := Lib.hid hct
  have HRC := Lib.hid hrc
  have HON := Lib.hid hone
  have HRD := Lib.hid hrd
  have HNW := Lib.hid hnw
  have HTX := Lib.hid htx
  clear hct hrc hone hrd hnw htx
  have r0 := ratZero w 74 w.heap.size rfl
  have hb0 := (Below.refl w.heap.size w).alloc (Nat.le_refl _) (.cells #[.string ⟨#[]⟩, .string ⟨#[]⟩] 74)
  go_enter Tryz.func39, Tryz.ntmps39
  go_wp2_with fail
  refine (HCT.out _).mono ?_
  rintro e w1 ⟨rfl, hb1⟩
  have z1 := hb1.size
  simp at z1
  replace r0 := rowBelow r0 hb1
  replace hb0 := hb0.trans (hb1.mono (by simp))
  go_wp2_with fail
  refine (HRC.out _).mono ?_
  rintro e w2 ⟨rfl, hb2⟩
  have z2 := hb2.size
  replace r0 := (rowBelow r0 hb2).alloc (.cells #[.string (natB V)] 59)
  replace hb0 := (hb0.trans (hb2.mono (by omega))).alloc (by omega) (.cells #[.string (natB V)] 59)
  have r1 := boxNew w2 (.string (natB V)) 59 w2.heap.size rfl
  go_wp2_with fail
  refine (HON.out _).mono ?_
  rintro e w3 ⟨rfl, hb3⟩
  have z3 := hb3.size
  simp at z3
  replace r0 := (rowBelow r0 hb3).alloc (.cells #[.string (natB 1)] 59)
  replace hb0 := (hb0.trans (hb3.mono (by simp; omega))).alloc (by omega) (.cells #[.string (natB 1)] 59)
  replace r1 := (rowBelow r1 hb3).alloc (.cells #[.string (natB 1)] 59)
  have r2 := boxNew w3 (.string (natB 1)) 59 w3.heap.size rfl
  have z4 : (w3.alloc (.cells #[.string (natB 1)] 59)).heap.size = w3.heap.size + 1 := by simp
  have n02 : w.heap.size ≠ w2.heap.size := by omega
  have n03 : w.heap.size ≠ w3.heap.size := by omega
  have n23 : w2.heap.size ≠ w3.heap.size := by omega
  have l0 : w.heap.size ≤ w2.heap.size := by omega
  have l1 : w.heap.size ≤ w3.heap.size := by omega
  have l4 : w.heap.size ≤ (w3.alloc (.cells #[.string (natB 1)] 59)).heap.size := by omega
  clear hb1 hb2 hb3 z1 z2 z3
  generalize w2.heap.size = B2 at *
  go_wp2_with fail
  refine (HRD.out _).mono ?_
  rintro e w5 ⟨rfl, hb5⟩
  have z5 := hb5.size
  replace r0 := (rowBelow r0 hb5).setOther (a := ⟨w3.heap.size, 0, none⟩) n03 (.string (natB D))
  replace r1 := (rowBelow r1 hb5).setOther (a := ⟨w3.heap.size, 0, none⟩) n23 (.string (natB D))
  replace hb0 := (hb0.trans (hb5.mono l4)).setCell (p := ⟨w3.heap.size, 0, none⟩) l1 (.string (natB D))
  replace r2 := rowBelow r2 hb5
  have c2 := boxCell r2
  have f2 := r2.frozen 0
  replace r2 := boxSet r2 (.string (natB D))
  have z6 : (w5.setCell ⟨w3.heap.size, 0, none⟩ (.string (natB D))).heap.size = w5.heap.size := size_setCell _ _ _
  replace l4 : w.heap.size ≤ w5.heap.size := by omega
  have c1 := boxCell r1
  have c2 := boxCell r2
  go_wp2_with fail
  refine (HNW.out _).mono ?_
  rintro e w7 ⟨rfl, hb7⟩
  have z7 := hb7.size
  replace r0 := (rowBelow r0 hb7).alloc (.cells #[.string (natB N), .string (natB M)] 74)
  replace hb0 := (hb0.trans (hb7.mono (by omega))).alloc (by omega) (.cells #[.string (natB N), .string (natB M)] 74)
  have r4 := ratNew w7 N M 74 w7.heap.size rfl
  clear c1 c2 r1 r2
  obtain ⟨e0, e1⟩ := ratCells r4
  go_wp2_with fail
  refine (HTX.out _).mono ?_
  rintro e w8 ⟨rfl, hb8⟩
  have z8 := hb8.size
  simp at z8
  replace r0 := rowBelow r0 hb8
  replace r4 := rowBelow r4 hb8
  replace hb0 := hb0.trans (hb8.mono (by simp; omega))
  clear e0 e1
  obtain ⟨e0, e1⟩ := ratCells r4
  obtain ⟨d0, d1⟩ := ratCells r0
  have f0 := r0.frozen 0
  have f1 := r0.frozen 1
  go_wp2_with fail
  have hs := ratSet r0 0 0
  rw [natB_zero] at hs
  exact ret_rat_slot rfl 0 0 rfl rfl hs rfl ⟨rfl, (hb0.setCell (Nat.le_refl _) _).setCell (Nat.le_refl _) _⟩
set_option maxRecDepth 100000 in
set_option maxHeartbeats 2000000 in
/-- A fraction. -/
theorem qread_w6 (w : World) (s n d : ByteArray) (b : Bool) (V D N M : Nat) (hne : n ≠ s) (hct : CT s n d b) (hrc : NR n V true) (hrd : NR d D true) (hnw : NW V D N M true) (htx : TX N M s) :
    Calls Tryz.prog 39 #[.string s] w fun e w' => e = .returned (rdV N M) ∧ Below w.heap.size w w' := by
  have hneB : (n.toList == s.toList) = false := beq_eq_false_iff_ne.2 fun e => hne (toList_inj e)
  have hone := fun W => of_any W 1 (by decide)
  have HCT := Lib.hid hct
  have HRC := Lib.hid hrc
  have HON := Lib.hid hone
  have HRD := Lib.hid hrd
  have HNW := Lib.hid hnw
  have HTX := Lib.hid htx
  clear hct hrc hone hrd hnw htx
  have r0 := ratZero w 74 w.heap.size rfl
  have hb0 := (Below.refl w.heap.size w).alloc (Nat.le_refl _) (.cells #[.string ⟨#[]⟩, .string ⟨#[]⟩] 74)
  go_enter Tryz.func39, Tryz.ntmps39
  go_wp2_with fail
  refine (HCT.out _).mono ?_
  rintro e w1 ⟨rfl, hb1⟩
  have z1 := hb1.size
  simp at z1
  replace r0 := rowBelow r0 hb1
  replace hb0 := hb0.trans (hb1.mono (by simp))
  go_wp2_with fail
  refine (HRC.out _).mono ?_
  rintro e w2 ⟨rfl, hb2⟩
  have z2 := hb2.size
  replace r0 := (rowBelow r0 hb2).alloc (.cells #[.string (natB V)] 59)
  replace hb0 := (hb0.trans (hb2.mono (by omega))).alloc (by omega) (.cells #[.string (natB V)] 59)
  have r1 := boxNew w2 (.string (natB V)) 59 w2.heap.size rfl
  go_wp2_with fail
  refine (HON.out _).mono ?_
  rintro e w3 ⟨rfl, hb3⟩
  have z3 := hb3.size
  simp at z3
  replace r0 := (rowBelow r0 hb3).alloc (.cells #[.string (natB 1)] 59)
  replace hb0 := (hb0.trans (hb3.mono (by simp; omega))).alloc (by omega) (.cells #[.string (natB 1)] 59)
  replace r1 := (rowBelow r1 hb3).alloc (.cells #[.string (natB 1)] 59)
  have r2 := boxNew w3 (.string (natB 1)) 59 w3.heap.size rfl
  have z4 : (w3.alloc (.cells #[.string (natB 1)] 59)).heap.size = w3.heap.size + 1 := by simp
  have n02 : w.heap.size ≠ w2.heap.size := by omega
  have n03 : w.heap.size ≠ w3.heap.size := by omega
  have n23 : w2.heap.size ≠ w3.heap.size := by omega
  have l0 : w.heap.size ≤ w2.heap.size := by omega
  have l1 : w.heap.size ≤ w3.heap.size := by omega
  have l4 : w.heap.size ≤ (w3.alloc (.cells #[.string (natB 1)] 59)).heap.size := by omega
  clear hb1 hb2 hb3 z1 z2 z3
  generalize w2.heap.size = B2 at *
  go_wp2_with fail
  refine (HRD.out _).mono ?_
  rintro e w5 ⟨rfl, hb5⟩
  have z5 := hb5.size
  replace r0 := (rowBelow r0 hb5).setOther (a := ⟨w3.heap.size, 0, none⟩) n03 (.string (natB D))
  replace r1 := (rowBelow r1 hb5).setOther (a := ⟨w3.heap.size, 0, none⟩) n23 (.string (natB D))
  replace hb0 := (hb0.trans (hb5.mono l4)).setCell (p := ⟨w3.heap.size, 0, none⟩) l1 (.string (natB D))
  replace r2 := rowBelow r2 hb5
  have c2 := boxCell r2
  have f2 := r2.frozen 0
  replace r2 := boxSet r2 (.string (natB D))
  have z6 : (w5.setCell ⟨w3.heap.size, 0, none⟩ (.string (natB D))).heap.size = w5.heap.size := size_setCell _ _ _
  replace l4 : w.heap.size ≤ w5.heap.size := by omega
  have c1 := boxCell r1
  have c2 := boxCell r2
  go_wp2_with fail
  refine (HNW.out _).mono ?_
  rintro e w7 ⟨rfl, hb7⟩
  have z7 := hb7.size
  replace r0 := (rowBelow r0 hb7).alloc (.cells #[.string (natB N), .string (natB M)] 74)
  replace hb0 := (hb0.trans (hb7.mono (by omega))).alloc (by omega) (.cells #[.string (natB N), .string (natB M)] 74)
  have r4 := ratNew w7 N M 74 w7.heap.size rfl
  clear c1 c2 r1 r2
  obtain ⟨e0, e1⟩ := ratCells r4
  go_wp2_with fail
  refine (HTX.out _).mono ?_
  rintro e w8 ⟨rfl, hb8⟩
  have z8 := hb8.size
  simp at z8
  replace r0 := rowBelow r0 hb8
  replace r4 := rowBelow r4 hb8
  replace hb0 := hb0.trans (hb8.mono (by simp; omega))
  clear e0 e1
  obtain ⟨e0, e1⟩ := ratCells r4
  obtain ⟨d0, d1⟩ := ratCells r0
  have f0 := r0.frozen 0
  have f1 := r0.frozen 1
  go_wp2_with fail
  exact ret_rat_slot rfl N M rfl rfl (ratSet r0 N M) rfl ⟨rfl, (hb0.setCell (Nat.le_refl _) _).setCell (Nat.le_refl _) _⟩
end Go.Proofs.YtgnobohfnhpkdaaGreatDoor
end
/-! rat.Read: what it returns for every text. -/
section
set_option linter.unusedSimpArgs false
set_option linter.unusedVariables false
open Go Go.RowKit Cs
namespace Go.Proofs.YtgnobohfnhpkdaaGreatDoor
open Classical in
/-- The fraction that a text is. -/
noncomputable def rdO (s : ByteArray) : Option Rat :=
  if slash s = -1 then (if IsNum s then some ((numV s : Nat) : Rat) else none)
  else if IsNum (cutN s) ∧ IsNum (cutD s) ∧ 0 < numV (cutD s) ∧ qtext (qq (numV (cutN s)) (numV (cutD s))) = s then some (qq (numV (cutN s)) (numV (cutD s))) else none
theorem qn_qq_le (n d : Nat) : qn (qq n d) ≤ n := by rw [qn_qq]; exact Nat.div_le_self _ _
theorem den_qq_le (n d : Nat) (h : 0 < d) : (qq n d).den ≤ d := by rw [den_qq, qd_of h]; exact Nat.div_le_self _ _
theorem qtext_nat (V : Nat) : qtext (V : Rat) = dec V := by unfold qtext; rw [if_pos (show ((V : Nat) : Rat).den = 1 from rfl), qn_of_nat]
theorem n8_one' : n8 1 ≤ 1 := (n8_le _ _).2 (by decide)
theorem rdO_spec {s : ByteArray} {q : Rat} (h : rdO s = some q) : 0 ≤ q ∧ s = qtext q ∧ n8 (qn q) ≤ 2000 ∧ n8 q.den ≤ 2000 := by
  unfold rdO at h
  split at h
  · split at h
    · rename_i hn
      injection h with h
      subst h
      refine ⟨Rat.natCast_nonneg, ?_, ?_, ?_⟩
      · rw [qtext_nat]; exact num_dec hn
      · exact numV_n8 hn
      · have := n8_one'
        show n8 1 ≤ 2000
        omega
    · cases h
  · split at h
    · rename_i hn
      injection h with h
      subst h
      exact ⟨qq_nonneg _ _, hn.2.2.2.symm, Nat.le_trans (n8_mono (qn_qq_le _ _)) (numV_n8 hn.1), Nat.le_trans (n8_mono (den_qq_le _ _ hn.2.2.1)) (numV_n8 hn.2.1)⟩
    · cases h
theorem frac_cut (V D : Nat) : cutN (dec V ++ ⟨#[47]⟩ ++ dec D) = dec V ∧ cutD (dec V ++ ⟨#[47]⟩ ++ dec D) = dec D := by
  have h := slash_frac V D
  have h1 := decN_one V
  have hz := dec_size V
  constructor
  · unfold cutN
    rw [h, if_neg (by omega), Int.toNat_natCast]
    refine ByteArray.ext ?_
    refine Array.toList_inj.1 ?_
    simp [ByteArray.data_extract, ← ByteArray.size_data]
  · unfold cutD
    rw [h, if_neg (by omega), Int.toNat_natCast]
    refine ByteArray.ext ?_
    refine Array.toList_inj.1 ?_
    simp [ByteArray.data_extract, ← ByteArray.size_data]
theorem rdO_text {q : Rat} (h : 0 ≤ q) (h1 : decN (qn q) ≤ 2000) (h2 : decN q.den ≤ 2000) : rdO (qtext q) = some q := by
  have a1 := dec_num _ h1
  have a2 := dec_num _ h2
  unfold qtext
  by_cases hd : q.den = 1
  · rw [if_pos hd]
    unfold rdO
    rw [if_pos (slash_dec _), if_pos a1.1, a1.2]
    congr 1
    have := qq_can h
    rw [hd, qq_one] at this
    exact this
  · rw [if_neg hd]
    unfold rdO
    obtain ⟨c1, c2⟩ := frac_cut (qn q) q.den
    have hs : slash (dec (qn q) ++ ⟨#[47]⟩ ++ dec q.den) ≠ -1 := by rw [slash_frac]; omega
    rw [if_neg hs, c1, c2, a1.2, a2.2, qq_can h, if_pos]
    refine ⟨a1.1, a2.1, q.den_pos, ?_⟩
    unfold qtext
    rw [if_neg hd]
theorem cutN_ne {s : ByteArray} (h : slash s ≠ -1) : cutN s ≠ s := by
  intro e
  have e2 := congrArg ByteArray.size e
  unfold cutN at e2
  rw [if_neg h] at e2
  rcases slash_cases s with h1 | ⟨i, h1, h2⟩
  · exact h h1
  · rw [h1, Int.toNat_natCast, ByteArray.size_extract] at e2
    omega
def roV : Option Rat → Value
  | none => rdNo
  | some q => rdV (qn q) q.den
theorem tx_of (q : Rat) (h1 : n8 (qn q) ≤ 2000) (h2 : n8 q.den ≤ 2000) : TX (qn q) q.den (qtext q) := by
  intro W
  have := qtext_any W (qn q) q.den (by omega) (by omega)
  rw [ptext_q] at this
  exact this
/-- Read. -/
theorem qread_any (w : World) (s : ByteArray) (hs : s.size ≤ maxLen) : Calls Tryz.prog 39 #[.string s] w fun e w' => e = .returned (roV (rdO s)) ∧ Below w.heap.size w w' := by
  have hct : CT s (cutN s) (cutD s) (decide (slash s ≠ -1)) := fun W => scut_any W s hs
  by_cases h1 : slash s = -1
  · have hc : cutN s = s := by unfold cutN; rw [if_pos h1]
    rw [hc] at hct
    by_cases h2 : IsNum s
    · have e : rdO s = some ((numV s : Nat) : Rat) := by unfold rdO; rw [if_pos h1, if_pos h2]
      have hn := numV_n8 h2
      have ho := n8_one'
      rw [e]
      have hnw : NW (numV s) 1 (qn ((numV s : Nat) : Rat)) ((numV s : Nat) : Rat).den true := by
        intro W
        have := qnew_any W (numV s) 1 (by omega) (by omega) (by omega)
        rw [qq_one] at this
        exact this
      have htx := tx_of ((numV s : Nat) : Rat) (by rw [qn_of_nat]; exact hn) (by show n8 1 ≤ 2000; omega)
      rw [qtext_nat, ← num_dec h2] at htx
      exact qread_w2 w s _ _ _ _ _ hct (nr_yes h2) hnw htx
    · have e : rdO s = none := by unfold rdO; rw [if_pos h1, if_neg h2]
      rw [e]
      exact qread_w1 w s _ _ _ hct (nr_no h2)
  · have hne := cutN_ne h1
    by_cases hn : IsNum (cutN s)
    · by_cases hd : IsNum (cutD s)
      · have n1 := numV_n8 hn
        have n2 := numV_n8 hd
        rcases Nat.eq_zero_or_pos (numV (cutD s)) with h0 | h0
        · have e : rdO s = none := by unfold rdO; rw [if_neg h1, if_neg (fun h => by have := h.2.2.1; omega)]
          rw [e]
          have hrd := nr_yes hd
          rw [h0] at hrd
          exact qread_w4 w s _ _ _ _ _ hne hct (nr_yes hn) hrd (fun W => qnew_zero W _)
        · have hnw : NW (numV (cutN s)) (numV (cutD s)) (qn (qq (numV (cutN s)) (numV (cutD s)))) (qq (numV (cutN s)) (numV (cutD s))).den true := fun W => qnew_any W (numV (cutN s)) (numV (cutD s)) (by omega) (by omega) h0
          have htx := tx_of (qq (numV (cutN s)) (numV (cutD s))) (Nat.le_trans (n8_mono (qn_qq_le _ _)) n1) (Nat.le_trans (n8_mono (den_qq_le _ _ h0)) n2)
          by_cases ht : qtext (qq (numV (cutN s)) (numV (cutD s))) = s
          · have e : rdO s = some (qq (numV (cutN s)) (numV (cutD s))) := by unfold rdO; rw [if_neg h1, if_pos ⟨hn, hd, h0, ht⟩]
            rw [e]
            rw [ht] at htx
            exact qread_w6 w s _ _ _ _ _ _ _ hne hct (nr_yes hn) (nr_yes hd) hnw htx
          · have e : rdO s = none := by unfold rdO; rw [if_neg h1, if_neg (fun h => ht h.2.2.2)]
            rw [e]
            exact qread_w5 w s _ _ _ _ _ _ _ hne hct (nr_yes hn) (nr_yes hd) hnw _ htx ht
      · have e : rdO s = none := by unfold rdO; rw [if_neg h1, if_neg (fun h => hd h.2.1)]
        rw [e]
        exact qread_w3 w s _ _ _ _ _ true false hne hct (nr_yes hn) (nr_no hd) rfl
    · have e : rdO s = none := by unfold rdO; rw [if_neg h1, if_neg (fun h => hn h.1)]
      rw [e]
      by_cases hd : IsNum (cutD s)
      · exact qread_w3 w s _ _ _ _ _ false true hne hct (nr_no hn) (nr_yes hd) rfl
      · exact qread_w3 w s _ _ _ _ _ false false hne hct (nr_no hn) (nr_no hd) rfl
end Go.Proofs.YtgnobohfnhpkdaaGreatDoor
end
