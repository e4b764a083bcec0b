/-
  The library's variable internal/bytealg.MaxLen holds some number.
-/
import Derived.Test.YtdpnahojhmkemaaGreatDoorProg
import Derived.Test.YtdpnahojhmkemaaGreatDoorBase
import Derived.Shelf.LaysM
namespace Go.Proofs.YtdpnahojhmkemaaGreatDoor
open Go Go.RowKit
set_option linter.unusedVariables false

/-- The library's variable that its search looks into holds some number. -/
def MaxAt (w : World) : Prop := ∃ m, w.cell? ⟨0, 0, none⟩ = some (.int .i64 m)
theorem MaxAt.below {w w' : World} (h : MaxAt w) (hb : Below w.heap.size w w') : MaxAt w' := by
  obtain ⟨m, hm⟩ := h
  exact ⟨m, (hb.cell (p := ⟨0, 0, none⟩) (World.block_lt_of_cell? w _ hm)).trans hm⟩
theorem MaxAt.fr {w w' : World} {M : Nat → Prop} (h : MaxAt w) (hf : Fr M w w') (hM : ¬ M 0) : MaxAt w' := by
  obtain ⟨m, hm⟩ := h
  refine ⟨m, ?_⟩
  rw [← hm]
  unfold World.cell?
  rw [hf.block _ (World.block_lt_of_cell? w _ hm) hM]

/-- The library's variable that its search looks into holds some number, in every row's first world. -/
theorem maxAt_of {W : World} (h : W.ShapedOpen Tryz.prog) : MaxAt W :=
  Go.Proofs.cell_of_shapedOpen_int (zero := #[.int .i64 0]) (t := 3) h (of_decide_eq_true (by kernel_rfl)) (by kernel_rfl) rfl (by kernel_rfl) (by kernel_rfl) Tryz.underlying3
end Go.Proofs.YtdpnahojhmkemaaGreatDoor
