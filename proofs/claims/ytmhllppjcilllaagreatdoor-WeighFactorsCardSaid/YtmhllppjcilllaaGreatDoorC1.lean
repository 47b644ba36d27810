import Derived.Test.YtmhllppjcilllaaGreatDoorN1
import Derived.Test.YtmhllppjcilllaaGreatDoorM1
import Derived.Laws.OwnMore
import Derived.BigGuardPart
import Derived.Laws.ResultCell
import Derived.Test.YtmhllppjcilllaaGreatDoorDl
import Derived.Test.YtmhllppjcilllaaGreatDoorN3
import Derived.Lib.Bytealg
import Derived.Lib.Strings
import Derived.Laws.Externs
import Derived.Laws.Strings3
import Derived.BigRegion
import Derived.Test.YtmhllppjcilllaaGreatDoorQ2
import Derived.Laws.EntriesVeiled
import Derived.Deep.CutRange
set_option linter.unusedSimpArgs false
set_option linter.unusedVariables false
section
set_option maxRecDepth 100000
set_option maxHeartbeats 1000000
section
section
open Go Go.RowKit Cs
namespace Cs
def digV (s : List UInt8) : Nat → Nat
 | 0 => 0
 | k + 1 => digV s k * 10 + ((s.getD k 0).toNat - 48)
end Cs
end
section
open Go Go.RowKit Cs
namespace Cs
def allDig (s : ByteArray) : Prop := ∀ k (h : k < s.size), 48 ≤ s[k].toNat ∧ s[k].toNat ≤ 57
structure IsNum (s : ByteArray) : Prop where
 pos : 0 < s.size
 few : s.size ≤ 2000
 dig : allDig s
 led : ∀ h : 1 < s.size, s[0].toNat ≠ 48
end Cs
end
end
section
section
open Go Go.RowKit Cs
namespace Go.Proofs.YtmhllppjcilllaaGreatDoor
def ptext (n d : Nat) : ByteArray := if qd d = 1 then dec n else dec n ++ ⟨#[47]⟩ ++ dec d
theorem qtext_any (w : World) (n d : Nat) (hn : n8 n ≤ 100000) (hd : n8 d ≤ 100000) : Calls Tryz.prog 28 #[ratV n d] w fun e w' => e = .returned (.string (ptext n d)) ∧ Below w.heap.size w w' := by
 have hde := fun W => den_any W n d (by omega);have h1 := n8_qd d hd;have hcm := fun W => cmp_any W (qd d) 1 (by omega) (by have := n8_64 (n := 1) (by decide); omega);have htn := fun W => text_any W n (by omega);have htd := fun W => text_any W d (by omega);have hq := ratNew w n d 33 _ rfl;have hbel := (Below.refl w.heap.size w).alloc (zqn _) (.cells #[.string (natB n), .string (natB d)] 33)
 have hcz : (cmpN (qd d) 1 == 0) = decide (qd d = 1) := by
  have : (cmpN (qd d) 1 = 0) ↔ qd d = 1 := by
   unfold cmpN;split
   ·constructor <;> intro h <;> omega
   ·split
    ·simp [*]
    ·simp [*]
  by_cases h : qd d = 1
  ·rw [decide_eq_true h]; simpa using this.2 h
  ·rw [decide_eq_false h]; simpa using fun h2 => h (this.1 h2)
 have hpt : ptext n d = if qd d = 1 then dec n else dec n ++ ⟨#[47]⟩ ++ dec d := rfl
 rw [hpt];clear hpt
 have hsn : (dec n).size ≤ 300000 := by rw [dec_size]; have := nd10_le n _ hn; unfold decN; omega
 have hsd : (dec d).size ≤ 300000 := by rw [dec_size]; have := nd10_le d _ hd; unfold decN; omega
 have hs1 : ∀ W : World, (Op.stringOp .add (dec n) ⟨#[47]⟩).run Tryz.prog W = .ok (.string (dec n ++ ⟨#[47]⟩)) W := fun W => run_string_add_sum W _ _ (by have : (ByteArray.mk #[47]).size = 1 := rfl; omega)
 have hs2 : ∀ W : World, (Op.stringOp .add (dec n ++ ⟨#[47]⟩) (dec d)).run Tryz.prog W = .ok (.string (dec n ++ ⟨#[47]⟩ ++ dec d)) W := fun W => run_string_add_sum W _ _ (by
  rw [ByteArray.size_append];have : (ByteArray.mk #[47]).size = 1 := rfl
  omega)
 clear hsn hsd
 generalize cmpN (qd d) 1 = M at *
 generalize qd d = Q at *
 generalize dec n = DN at *
 generalize dec d = DD at *
 have HDE := zqh hde;have HCM := zqh hcm;have HTN := zqh htn;have HTD := zqh htd;clear hde hcm htn htd h1 hn hd;have HIF : Hid ((if Q = 1 then DN else DN ++ ⟨#[47]⟩ ++ DD) = (if (M == 0) = true then DN else DN ++ ⟨#[47]⟩ ++ DD)) := zqh (by rw [hcz]; by_cases h : Q = 1 <;> simp [h]);rw [HIF.out];clear hcz HIF;rcases Bool.eq_false_or_eq_true (M == 0) with hM | hM
 ·rw [if_pos hM]
  go_enter Tryz.func28, Tryz.ntmps28
  go_wp2_with (first
   | (go_at_call 73
      (with_reducible refine (HDE.out _).mono ?_)
      rintro e w1 ⟨rfl, hb1⟩;replace hq := rowBelow hq hb1;have hz1 := hb1.size;simp at hz1;replace hbel := hbel.trans (hb1.mono (by simp))
      clear hb1)
   | (go_at_call 34
      (with_reducible refine (of_one _).mono ?_)
      rintro e w2 ⟨rfl, hb2⟩;replace hq := rowBelow hq hb2;have hz2 := hb2.size;replace hbel := hbel.trans (hb2.mono (by omega))
      clear hb2)
   | (go_at_call 72
      (with_reducible refine (HCM.out _).mono ?_)
      rintro e w3 ⟨rfl, hb3⟩;replace hq := rowBelow hq hb3;have hz3 := hb3.size;replace hbel := hbel.trans (hb3.mono (by omega));obtain ⟨c0, c1⟩ := ratCells hq
      clear hb3)
   | (go_at_call 47
      (with_reducible refine (HTN.out _).mono ?_)
      rintro e w4 ⟨rfl, hb4⟩
      replace hbel := hbel.trans (hb4.mono (by omega))))
  go_ret
  exact ⟨rfl, hbel⟩
 ·rw [if_neg (by rw [hM]; decide)]
  go_enter Tryz.func28, Tryz.ntmps28
  go_wp2_with (first
   | (go_at_call 73
      (with_reducible refine (HDE.out _).mono ?_)
      rintro e w1 ⟨rfl, hb1⟩;replace hq := rowBelow hq hb1;have hz1 := hb1.size;simp at hz1;replace hbel := hbel.trans (hb1.mono (by simp))
      clear hb1)
   | (go_at_call 34
      (with_reducible refine (of_one _).mono ?_)
      rintro e w2 ⟨rfl, hb2⟩;replace hq := rowBelow hq hb2;have hz2 := hb2.size;replace hbel := hbel.trans (hb2.mono (by omega))
      clear hb2)
   | (go_at_call 72
      (with_reducible refine (HCM.out _).mono ?_)
      rintro e w3 ⟨rfl, hb3⟩;replace hq := rowBelow hq hb3;have hz3 := hb3.size;replace hbel := hbel.trans (hb3.mono (by omega));obtain ⟨c0, c1⟩ := ratCells hq
      clear hb3)
   | (go_at_call 47
      (with_reducible refine (HTN.out _).mono ?_)
      rintro e w4 ⟨rfl, hb4⟩
      replace hbel := hbel.trans (hb4.mono (by omega))))
  replace hq := hq.drew;have hbd : Below w.heap.size w w3.drew := hbel.drew;obtain ⟨c0, c1⟩ := ratCells hq
  go_region_held3 (fun w' => w'.cell? ⟨w.heap.size, 0, none⟩ = some (.string (natB n)) ∧ w'.cell? ⟨w.heap.size, 1, none⟩ = some (.string (natB d)))
   (first | exact ⟨c0, c1⟩ | go_keep)
   (first
     | (go_simp
        go_at_call 47
        (with_reducible first | refine (HTN.out _).mono ?_ | refine (HTD.out _).mono ?_)
        rintro e w9 ⟨rfl, hb9⟩;replace hbd := hbd.trans (hb9.mono (by have := hbd.size; omega));replace hq := rowBelow hq hb9
        obtain ⟨c0, c1⟩ := ratCells hq))
  all_goals
   try go_wp2
   go_ret
   exact ⟨rfl, hbd⟩
end Go.Proofs.YtmhllppjcilllaaGreatDoor
end
section
open Go Go.RowKit Cs
namespace Cs
def slash (s : ByteArray) : Int := Lib.indexByte s.data.toList 47
end Cs
namespace Go.Proofs.YtmhllppjcilllaaGreatDoor
def cutN (s : ByteArray) : ByteArray := if slash s = -1 then s else s.extract 0 (slash s).toNat
def cutD (s : ByteArray) : ByteArray := if slash s = -1 then ⟨#[]⟩ else s.extract ((slash s).toNat + 1) s.size
end Go.Proofs.YtmhllppjcilllaaGreatDoor
end
section
open Go Go.RowKit Cs
namespace Cs
def nuV (s : ByteArray) : Nat := digV s.data.toList s.size
end Cs
end
end
section
section
open Go Go.RowKit Cs
namespace Cs
theorem ptext_q {q : Rat} : Go.Proofs.YtmhllppjcilllaaGreatDoor.ptext (qn q) q.den = qtext q := by
 unfold Go.Proofs.YtmhllppjcilllaaGreatDoor.ptext qtext;rw [qd_of (Rat.den_pos q)]
end Cs
end
section
open Go Go.RowKit Cs
namespace Go.Proofs.YtmhllppjcilllaaGreatDoor
open Classical in
noncomputable def rdO (s : ByteArray) : Option Rat :=
 if slash s = -1 then (if IsNum s then some ((nuV s : Nat) : Rat) else none)
 else if IsNum (cutN s) ∧ IsNum (cutD s) ∧ 0 < nuV (cutD s) ∧ qtext (qq (nuV (cutN s)) (nuV (cutD s))) = s then some (qq (nuV (cutN s)) (nuV (cutD s))) else none
end Go.Proofs.YtmhllppjcilllaaGreatDoor
end
end
end
section

end
section
open Go Go.RowKit Cs
end
section
section
open Go Go.RowKit Cs
namespace Go.Proofs.YtmhllppjcilllaaGreatDoor
theorem ret_nat_slot {fn : Func} {R : Ending → World → Prop} {a : Act} {w : World} {p u : Tmp} (h : fn.results = #[.cell p 31, .tmp u]) {g : Nat} {t : TypeId} (V : Nat)
  (hp : a.tmps.getD p undef = .pointer (some ⟨g, 0, none⟩)) (hrow : w.rowIs g t 1 fun _ => .string (natB V)) (hdf : a.defers = []) (hR : R (.returned (.tuple #[natV V, a.tmps.getD u undef])) w) : bodyPost Tryz.prog fn R .ret a w := by
 refine bodyPost_ret ?_ hdf hR;rw [results_cell_tmp h, hp];have hl := run_loadVar_row (P := Tryz.prog) w g t 31 _ (0, 0) _ (rowArr hrow) Tryz.underlying31 rfl (by simpa using size_nat);simp [asAddr, Result.andThen, hl]
end Go.Proofs.YtmhllppjcilllaaGreatDoor
end
end
