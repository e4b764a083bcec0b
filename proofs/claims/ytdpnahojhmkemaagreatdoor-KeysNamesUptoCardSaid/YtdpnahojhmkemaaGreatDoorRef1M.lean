/-
  The reference's Of and May.
-/
import Derived.Test.YtdpnahojhmkemaaGreatDoorRef1C
namespace Go.Proofs.YtdpnahojhmkemaaGreatDoor
open Go Go.RowKit
set_option linter.unusedVariables false
set_option maxRecDepth 100000

theorem concat_ok (a b : ByteArray) (h : a.size + b.size < 4611686018427387904) : Op.stringOp .add a b = pure (.string (a ++ b)) := by
  have : ¬ ((a.size + b.size : Nat) : Int) > IntKind.i64.max := by simp [IntKind.max, IntKind.bits, IntKind.signed]; omega
  simp only [Op.stringOp, if_neg this]
theorem of_any (s : ByteArray) (w : World) (c : CutS) (hc : ofS s.data.toList = c) : Calls Tryz.prog 40 #[.string s] w fun e w' => e = .returned (.agg #[.int .i64 c.kind, .string ⟨c.pre.toArray⟩, .string ⟨c.inst.toArray⟩, .bool c.at_]) ∧ Below w.heap.size w w' := by
  subst hc
  by_cases h : s.size ≤ 60
  · exact of_short s w h
  · have hz : ofS s.data.toList = cutZ := by
      have hl : ¬ s.data.toList.length ≤ 60 := by simpa using h
      have : kindS s.data.toList = 0 := by unfold kindS; rw [if_neg (fun q => hl q.1)]
      unfold ofS; rw [if_pos this]
    rw [hz]
    exact of_long s w (by omega)

theorem field_cut (a b c d : Value) (h : a.cells = #[a]) (W : World) : (Instr.field 79 (.agg #[a, b, c, d]) 0).run Tryz.prog W = .ok a W := by
  first | rfl | simp [Instr.field, go_sem, h]
theorem may1_any (s : ByteArray) (w : World) (b : Bool) (hb : decide (kindS s.data.toList ≠ 0) = b) :
    Calls Tryz.prog 19 #[.string s] w fun e w' => e = .returned (.bool b) ∧ Below w.heap.size w w' := by
  have HO := Lib.hid (of_any s w _ rfl)
  have hk := ofS_kind s.data.toList
  have hb' : decide (0 < (ofS s.data.toList).kind) = b := by
    rw [← hb, hk]
    by_cases h : kindS s.data.toList = 0
    · rw [h]; rfl
    · simp [h]; omega
  generalize ofS s.data.toList = c at HO hb'
  clear hb hk
  have hfl := field_cut (.int .i64 c.kind) (.string ⟨c.pre.toArray⟩) (.string ⟨c.inst.toArray⟩) (.bool c.at_) rfl
  go_enter Tryz.func19, Tryz.ntmps19
  go_wp2_with (refine HO.out.mono ?_; rintro e w' ⟨rfl, hb1⟩)
  go_ret
  exact ⟨rfl, hb1⟩

end Go.Proofs.YtdpnahojhmkemaaGreatDoor
