/-
  Package name: May.
-/
import Derived.Test.YtdpnahojhmkemaaGreatDoorName2
namespace Go.Proofs.YtdpnahojhmkemaaGreatDoor
open Go Go.RowKit
set_option linter.unusedVariables false
set_option maxRecDepth 100000

theorem may_any (s : ByteArray) (w : World) (hs : s.size < 4294967281) (hm : MaxAt w) (b : Bool) (hb : decide (kindS s.data.toList ≠ 0) = b) :
    Calls Tryz.prog 87 #[.string s] w fun e w' => e = .returned (.bool b) ∧ Below w.heap.size w w' := by
  have HC := Lib.hid (kind_any s w hs hm _ rfl)
  have hb' : ((kindS s.data.toList : Int) != 0) = b := by
    rw [← hb]
    by_cases h : kindS s.data.toList = 0
    · rw [h]; rfl
    · have : ((kindS s.data.toList : Int) == 0) = false := by rw [beq_eq_false_iff_ne]; omega
      simp [bne, this, h]
  generalize kindS s.data.toList = n at HC hb'
  clear hb
  go_enter Tryz.func87, Tryz.ntmps87
  go_wp2_with (refine HC.out.mono ?_; rintro e w' ⟨rfl, hb1⟩)
  go_ret
  exact ⟨rfl, hb1⟩

end Go.Proofs.YtdpnahojhmkemaaGreatDoor
