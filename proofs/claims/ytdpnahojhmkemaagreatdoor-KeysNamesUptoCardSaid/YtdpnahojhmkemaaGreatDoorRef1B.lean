/-
  The reference's Letter, Digit, nameByte, Suffix.
-/
import Derived.Test.YtdpnahojhmkemaaGreatDoorCharsB
import Derived.Test.YtdpnahojhmkemaaGreatDoorNameS
import Derived.Deep.LoopGhost
import Derived.Lib.SmallJoins
import Derived.IntWalk
namespace Go.Proofs.YtdpnahojhmkemaaGreatDoor
open Go Go.RowKit
set_option linter.unusedVariables false
set_option maxRecDepth 100000

set_option maxHeartbeats 400000 in
theorem let1_any (c : UInt8) (w : World) :
    Calls Tryz.prog 99 #[.int .u8 c.toNat] w fun e w' => e = .returned (.bool (isLetter c)) ∧ w = w' := by
  go_enter Tryz.func99, Tryz.ntmps99
  go_wp2
  all_goals
    go_ret
    refine ⟨ret_bool ?_, rfl⟩
    rw [isLetter_iff, Bool.eq_iff_iff]
    simp
    omega
set_option maxHeartbeats 400000 in
theorem dig1_any (c : UInt8) (w : World) :
    Calls Tryz.prog 53 #[.int .u8 c.toNat] w fun e w' => e = .returned (.bool (isDigit c)) ∧ w = w' := by
  go_enter Tryz.func53, Tryz.ntmps53
  go_wp2
  all_goals
    go_ret
    refine ⟨ret_bool ?_, rfl⟩
    rw [isDigit_iff, Bool.eq_iff_iff]
    simp
    omega
theorem signs_iff (c : UInt8) : ([58, 45, 95, 46, 92] : Str).contains c = decide ((c.toNat : Int) = 58 ∨ (c.toNat : Int) = 45 ∨ (c.toNat : Int) = 95 ∨ (c.toNat : Int) = 46 ∨ (c.toNat : Int) = 92) := by
  rw [Bool.eq_iff_iff, List.contains_iff_mem]
  simp [← UInt8.toNat_inj]
  omega
set_option maxHeartbeats 1000000 in
theorem nameByte_any (c : UInt8) (w : World) (b : Bool) (hb : nameC c = b) :
    Calls Tryz.prog 67 #[.int .u8 c.toNat] w fun e w' => e = .returned (.bool b) ∧ w = w' := by
  subst hb
  have HL := Lib.hid (fun W => let1_any c W)
  have HD := Lib.hid (fun W => dig1_any c W)
  unfold nameC
  rw [signs_iff]
  have hc := UInt8.toNat_lt c
  generalize isLetter c = l at *
  generalize isDigit c = d at *
  generalize c.toNat = n at *
  cases l with
  | true =>
    go_enter Tryz.func67, Tryz.ntmps67
    go_wp2_with (go_at_call 99; refine (HL.out _).mono ?_; rintro e w' ⟨rfl, rfl⟩)
    go_ret
    exact ⟨rfl, rfl⟩
  | false =>
    cases d with
    | true =>
      go_enter Tryz.func67, Tryz.ntmps67
      go_wp2_with (first
        | (go_at_call 99; refine (HL.out _).mono ?_; rintro e w' ⟨rfl, rfl⟩)
        | (go_at_call 53; refine (HD.out _).mono ?_; rintro e w' ⟨rfl, rfl⟩))
      go_ret
      exact ⟨rfl, rfl⟩
    | false =>
      go_enter Tryz.func67, Tryz.ntmps67
      go_wp2_with (first
        | (go_at_call 99; refine (HL.out _).mono ?_; rintro e w' ⟨rfl, rfl⟩)
        | (go_at_call 53; refine (HD.out _).mono ?_; rintro e w' ⟨rfl, rfl⟩))
      all_goals
        go_ret
        refine ⟨ret_bool ?_, rfl⟩
        rw [Bool.eq_iff_iff]
        simp
        try omega

/-- The string of a kind's suffix. -/
def sufJ (n : Int) : Str := if n = 1 then sService else if n = 2 then sSocket else if n = 3 then sTimer else if n = 4 then sTarget else []
theorem sufJ_nat (k : Nat) : sufJ (k : Int) = sufS k := by
  unfold sufJ sufS
  by_cases h1 : k = 1
  · subst h1; rfl
  by_cases h2 : k = 2
  · subst h2; rfl
  by_cases h3 : k = 3
  · subst h3; rfl
  by_cases h4 : k = 4
  · subst h4; rfl
  rw [if_neg (by omega), if_neg (by omega), if_neg (by omega), if_neg (by omega), if_neg h1, if_neg h2, if_neg h3, if_neg h4]

set_option maxHeartbeats 400000 in
theorem suffix1_any (n : Int) (w : World) (t : Str) (ht : sufJ n = t) :
    Calls Tryz.prog 66 #[.int .i64 n] w fun e w' => e = .returned (.string ⟨t.toArray⟩) ∧ w = w' := by
  subst ht
  by_cases h1 : n = 1
  · subst h1
    go_enter Tryz.func66, Tryz.ntmps66
    go_wp2
    go_ret
    exact ⟨rfl, rfl⟩
  by_cases h2 : n = 2
  · subst h2
    clear h1
    go_enter Tryz.func66, Tryz.ntmps66
    go_wp2
    go_ret
    exact ⟨rfl, rfl⟩
  by_cases h3 : n = 3
  · subst h3
    clear h1 h2
    go_enter Tryz.func66, Tryz.ntmps66
    go_wp2
    go_ret
    exact ⟨rfl, rfl⟩
  by_cases h4 : n = 4
  · subst h4
    clear h1 h2 h3
    go_enter Tryz.func66, Tryz.ntmps66
    go_wp2
    go_ret
    exact ⟨rfl, rfl⟩
  have e : sufJ n = [] := by unfold sufJ; rw [if_neg h1, if_neg h2, if_neg h3, if_neg h4]
  rw [e]
  have q1 : (n == 1) = false := by rw [beq_eq_false_iff_ne]; exact h1
  have q2 : (n == 2) = false := by rw [beq_eq_false_iff_ne]; exact h2
  have q3 : (n == 3) = false := by rw [beq_eq_false_iff_ne]; exact h3
  have q4 : (n == 4) = false := by rw [beq_eq_false_iff_ne]; exact h4
  clear e h1 h2 h3 h4
  go_enter Tryz.func66, Tryz.ntmps66
  go_wp2
  go_ret
  exact ⟨rfl, rfl⟩
end Go.Proofs.YtdpnahojhmkemaaGreatDoor
