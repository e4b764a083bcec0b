/-
  matinslaw5: shown.
-/
import Derived.Test.YtlcimhchkbaieaaWordsE
import Derived.Test.YtlcimhchkbaieaaWordsG
import Derived.Test.YtlcimhchkbaieaaRef5A
namespace Go.Proofs.Ytlcimhchkbaieaa
open Go Go.RowKit
set_option linter.unusedVariables false

theorem shown1 : split [97, 32, 39, 98, 32, 99, 39, 34, 100, 34, 32, 32, 92, 120, 52, 49, 92, 115, 32, 45] = .ok [[97], [98, 32, 99, 100], [65, 32], [45]] := by kernel_rfl
theorem shown2 : split [39, 97] = .error 13 := by kernel_rfl
theorem shown3 : join [[97], [], [45, 120], [113, 34, 10]] = [97, 32, 34, 34, 32, 34, 45, 120, 34, 32, 34, 113, 92, 34, 92, 120, 48, 97, 34] := by kernel_rfl

/-- A slice of strings that has just been laid. -/
theorem row_new (w : World) (l : List Str) (e : TypeId) : StrRow (w.alloc (.cells (strVals l).toArray e)) (some ⟨w.heap.size, 0, none⟩) l := by
  intro i hi
  refine ⟨w.heap.size, 0, rfl, ?_⟩
  rw [Nat.zero_add, World.cell?_alloc_new]
  simp [strVals, hi]

set_option maxHeartbeats 2000000 in
set_option maxRecDepth 100000 in
theorem shown_any (w : World) :
    Calls Try.prog 8 #[] w fun e w' => e = .returned (.bool true) ∧ Below w.heap.size w w' := by
  go_enter Try.func8, Try.ntmps8
  go_wp2_with fail
  refine (split_any _ _ (by decide) _ shown1).mono ?_
  rintro e w1 ⟨hb1, v, rfl, hv⟩
  obtain ⟨oa, cap, rfl⟩ := ownsRow_form hv
  have hr1 := StrRow.of_own hv
  have Hb1 := Lib.hid hb1; clear hb1 hv
  go_wp2_with fail
  refine (split_any _ _ (by decide) _ shown2).mono ?_
  rintro e w2 ⟨hb2, rfl⟩
  have Hr2 := Lib.hid (hr1.below hb2); clear hr1
  have Hb2 := Lib.hid (Hb1.out.trans (hb2.mono Hb1.out.size)); clear hb2 Hb1
  go_wp2_with fail
  have ha2 := row_new w2 [[97], [98, 32, 99, 100], [65, 32], [45]] 9
  have hb3 : Below w2.heap.size w2 (w2.alloc (.cells (strVals [[97], [98, 32, 99, 100], [65, 32], [45]]).toArray 9)) := (Below.refl _ _).alloc (Nat.le_refl _) _
  have hs2 : sameB [[97], [98, 32, 99, 100], [65, 32], [45]] [[97], [98, 32, 99, 100], [65, 32], [45]] = true := by kernel_rfl
  refine (same_b oa _ cap 4 [[97], [98, 32, 99, 100], [65, 32], [45]] [[97], [98, 32, 99, 100], [65, 32], [45]] _ (Hr2.out.below hb3) ha2 (by decide) (by decide) _ hs2).mono ?_
  rintro e w3 ⟨rfl, hb4⟩
  have Hb3 := Lib.hid (Below.more (Below.more Hb2.out hb3) hb4); clear hb3 Hb2 hb4 ha2 Hr2 hs2
  go_wp2_with fail
  have ha3 := row_new w3 [[97], [], [45, 120], [113, 34, 10]] 9
  have hb5 : Below w3.heap.size w3 (w3.alloc (.cells (strVals [[97], [], [45, 120], [113, 34, 10]]).toArray 9)) := (Below.refl _ _).alloc (Nat.le_refl _) _
  refine (join_any _ 4 [[97], [], [45, 120], [113, 34, 10]] _ ha3 (by decide) (by intro x hx; simp at hx; rcases hx with rfl | rfl | rfl | rfl <;> decide)).mono ?_
  rintro e w4 ⟨rfl, hb6⟩
  have Hb5 := Lib.hid (Below.more (Below.more Hb3.out hb5) hb6); clear hb5 Hb3 hb6 ha3
  rw [shown3]
  go_wp2_with fail
  go_ret
  exact ⟨rfl, Hb5.out⟩
end Go.Proofs.Ytlcimhchkbaieaa
