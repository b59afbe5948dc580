/- The program's Format returns what the reference's returns, for all arguments. -/
import Derived.Test.YtdnnkfiocoakkaaPFnExactFormaty12
namespace Go.Proofs.Ytdnnkfiocoakkaa.Pure
open Go.RowKit Go.Proofs.Ytdnnkfiocoakkaa.PFnExactFormat Go.Proofs.YtdnnkfiocoakkaaW.PrintWords Go.Proofs.YtdnnkfiocoakkaaW.PrintLast
theorem in_no (a : Int) (h : ¬ (4 ≤ a ∧ a ≤ 40)) : spec_l01In.f a 4 40 = some false := by
  unfold spec_l01In.f
  split
  · rw [decide_eq_false (by omega)]
  · rfl
theorem impl_in_no (a : Int) (h : ¬ (4 ≤ a ∧ a ≤ 40)) : impl_in.f a 4 40 = some false := by
  unfold impl_in.f
  split
  · rw [decide_eq_false (by omega)]
  · rfl
theorem spec_no (k : Nat) (a : Int) (h : ¬ (4 ≤ a ∧ a ≤ 40)) : spec_Format.f k a = some ([], [], false) := by
  unfold spec_Format.f spec_DiskNew.f
  rw [in_no a h]
  rfl
theorem impl_no (k : Nat) (a : Int) (h : ¬ (4 ≤ a ∧ a ≤ 40)) : impl_Format.f k a = some ([], [], false) := by
  unfold impl_Format.f impl_DiskNew.f
  rw [impl_in_no a h]
  rfl
theorem eq_no : laws_eqDisk.f 9 [] [] [] [] = some true := by kernel_rfl
theorem eq_no' : laws_eqDisk.f 10 [] [] [] [] = some true := by kernel_rfl
theorem mark_no : laws_markDisk.f 9 [] [] 1 = some (1, [], []) := by kernel_rfl
theorem held_no : laws_heldDisk.f 9 [] [] 1 = some 1 := by kernel_rfl
theorem held_no' : laws_heldDisk.f 8 [] [] 1 = some 1 := by kernel_rfl
theorem law_no (a : Int) (h : ¬ (4 ≤ a ∧ a ≤ 40)) : laws_FnExactFormat.f 10 a = some true := by
  unfold laws_FnExactFormat.f
  rw [spec_no _ a h, impl_no _ a h]
  simp only [Option.bind_some, eq_no', if_true]
  simp only [laws_FnExactFormat.j0, mark_no, held_no, Option.bind_some]
  rw [impl_no _ a h]
  simp only [Option.bind_some, eq_no, if_true]
  simp only [laws_FnExactFormat.j1, held_no', Option.bind_some]
  rfl
theorem at_4 : laws_FnExactFormat.f 400 4 = some true := by kernel_rfl
theorem at_5 : laws_FnExactFormat.f 400 5 = some true := by kernel_rfl
theorem at_6 : laws_FnExactFormat.f 400 6 = some true := by kernel_rfl
theorem at_7 : laws_FnExactFormat.f 400 7 = some true := by kernel_rfl
theorem at_8 : laws_FnExactFormat.f 400 8 = some true := by kernel_rfl
theorem at_9 : laws_FnExactFormat.f 400 9 = some true := by kernel_rfl
theorem at_10 : laws_FnExactFormat.f 400 10 = some true := by kernel_rfl
theorem at_11 : laws_FnExactFormat.f 400 11 = some true := by kernel_rfl
theorem at_12 : laws_FnExactFormat.f 400 12 = some true := by kernel_rfl
theorem at_13 : laws_FnExactFormat.f 400 13 = some true := by kernel_rfl
theorem at_14 : laws_FnExactFormat.f 400 14 = some true := by kernel_rfl
theorem at_15 : laws_FnExactFormat.f 400 15 = some true := by kernel_rfl
theorem at_16 : laws_FnExactFormat.f 400 16 = some true := by kernel_rfl
theorem at_17 : laws_FnExactFormat.f 400 17 = some true := by kernel_rfl
theorem at_18 : laws_FnExactFormat.f 400 18 = some true := by kernel_rfl
theorem at_19 : laws_FnExactFormat.f 400 19 = some true := by kernel_rfl
theorem at_20 : laws_FnExactFormat.f 400 20 = some true := by kernel_rfl
theorem at_21 : laws_FnExactFormat.f 400 21 = some true := by kernel_rfl
theorem at_22 : laws_FnExactFormat.f 400 22 = some true := by kernel_rfl
theorem at_23 : laws_FnExactFormat.f 400 23 = some true := by kernel_rfl
theorem at_24 : laws_FnExactFormat.f 400 24 = some true := by kernel_rfl
theorem at_25 : laws_FnExactFormat.f 400 25 = some true := by kernel_rfl
theorem at_26 : laws_FnExactFormat.f 400 26 = some true := by kernel_rfl
theorem at_27 : laws_FnExactFormat.f 400 27 = some true := by kernel_rfl
theorem at_28 : laws_FnExactFormat.f 400 28 = some true := by kernel_rfl
theorem at_29 : laws_FnExactFormat.f 400 29 = some true := by kernel_rfl
theorem at_30 : laws_FnExactFormat.f 400 30 = some true := by kernel_rfl
theorem at_31 : laws_FnExactFormat.f 400 31 = some true := by kernel_rfl
theorem at_32 : laws_FnExactFormat.f 400 32 = some true := by kernel_rfl
theorem at_33 : laws_FnExactFormat.f 400 33 = some true := by kernel_rfl
theorem at_34 : laws_FnExactFormat.f 400 34 = some true := by kernel_rfl
theorem at_35 : laws_FnExactFormat.f 400 35 = some true := by kernel_rfl
theorem at_36 : laws_FnExactFormat.f 400 36 = some true := by kernel_rfl
theorem at_37 : laws_FnExactFormat.f 400 37 = some true := by kernel_rfl
theorem at_38 : laws_FnExactFormat.f 400 38 = some true := by kernel_rfl
theorem at_39 : laws_FnExactFormat.f 400 39 = some true := by kernel_rfl
theorem at_40 : laws_FnExactFormat.f 400 40 = some true := by kernel_rfl
theorem FnExactFormat : laws_FnExactFormat.Pure := by
  intro a _
  by_cases h : 4 ≤ a ∧ a ≤ 40
  · refine ⟨400, ?_⟩
    obtain rfl | rfl | rfl | rfl | rfl | rfl | rfl | rfl | rfl | rfl | rfl | rfl | rfl | rfl | rfl | rfl | rfl | rfl | rfl | rfl | rfl | rfl | rfl | rfl | rfl | rfl | rfl | rfl | rfl | rfl | rfl | rfl | rfl | rfl | rfl | rfl | rfl : a = 4 ∨ a = 5 ∨ a = 6 ∨ a = 7 ∨ a = 8 ∨ a = 9 ∨ a = 10 ∨ a = 11 ∨ a = 12 ∨ a = 13 ∨ a = 14 ∨ a = 15 ∨ a = 16 ∨ a = 17 ∨ a = 18 ∨ a = 19 ∨ a = 20 ∨ a = 21 ∨ a = 22 ∨ a = 23 ∨ a = 24 ∨ a = 25 ∨ a = 26 ∨ a = 27 ∨ a = 28 ∨ a = 29 ∨ a = 30 ∨ a = 31 ∨ a = 32 ∨ a = 33 ∨ a = 34 ∨ a = 35 ∨ a = 36 ∨ a = 37 ∨ a = 38 ∨ a = 39 ∨ a = 40 := by omega
    · exact at_4
    · exact at_5
    · exact at_6
    · exact at_7
    · exact at_8
    · exact at_9
    · exact at_10
    · exact at_11
    · exact at_12
    · exact at_13
    · exact at_14
    · exact at_15
    · exact at_16
    · exact at_17
    · exact at_18
    · exact at_19
    · exact at_20
    · exact at_21
    · exact at_22
    · exact at_23
    · exact at_24
    · exact at_25
    · exact at_26
    · exact at_27
    · exact at_28
    · exact at_29
    · exact at_30
    · exact at_31
    · exact at_32
    · exact at_33
    · exact at_34
    · exact at_35
    · exact at_36
    · exact at_37
    · exact at_38
    · exact at_39
    · exact at_40
  · exact ⟨10, law_no a h⟩
end Go.Proofs.Ytdnnkfiocoakkaa.Pure
