/-
  Package chars: Letter, Digit, All at a function value, Any.
-/
import Derived.Test.YtdpnahojhmkemaaGreatDoorCharsA
import Derived.Test.YtdpnahojhmkemaaGreatDoorLinesS
import Derived.Shelf.Abstract
namespace Go.Proofs.YtdpnahojhmkemaaGreatDoor
open Go Go.RowKit
set_option linter.unusedVariables false
set_option maxRecDepth 100000

theorem isLetter_iff (c : UInt8) : isLetter c = decide ((97 ≤ (c.toNat : Int) ∧ (c.toNat : Int) ≤ 122) ∨ (65 ≤ (c.toNat : Int) ∧ (c.toNat : Int) ≤ 90)) := by
  rw [Bool.eq_iff_iff]; simp [isLetter, UInt8.le_iff_toNat_le]; omega
theorem isDigit_iff (c : UInt8) : isDigit c = decide (48 ≤ (c.toNat : Int) ∧ (c.toNat : Int) ≤ 57) := by
  rw [Bool.eq_iff_iff]; simp [isDigit, UInt8.le_iff_toNat_le]; omega

set_option maxHeartbeats 400000 in
theorem letter_any (c : UInt8) (w : World) :
    Calls Tryz.prog 79 #[.int .u8 c.toNat] w fun e w' => e = .returned (.bool (isLetter c)) ∧ w = w' := by
  go_enter Tryz.func79, Tryz.ntmps79
  go_wp2
  all_goals
    go_ret
    refine ⟨ret_bool ?_, rfl⟩
    rw [isLetter_iff, Bool.eq_iff_iff]
    simp
    omega
set_option maxHeartbeats 400000 in
theorem digit_any (c : UInt8) (w : World) :
    Calls Tryz.prog 101 #[.int .u8 c.toNat] w fun e w' => e = .returned (.bool (isDigit c)) ∧ w = w' := by
  go_enter Tryz.func101, Tryz.ntmps101
  go_wp2
  all_goals
    go_ret
    refine ⟨ret_bool ?_, rfl⟩
    rw [isDigit_iff, Bool.eq_iff_iff]
    simp
    omega
theorem enters_letter (args : Array Value) (w : World) : (callFunc 79 args).run Tryz.prog w = .ok (.enter 79 args) w := enters_of Tryz.func79 (by kernel_rfl) rfl args w
theorem enters_digit (args : Array Value) (w : World) : (callFunc 101 args).run Tryz.prog w = .ok (.enter 101 args) w := enters_of Tryz.func101 (by kernel_rfl) rfl args w
theorem enters_any1 (args : Array Value) (w : World) : (callFunc 150 args).run Tryz.prog w = .ok (.enter 150 args) w := enters_of Tryz.func150 (by kernel_rfl) rfl args w


theorem all_b (s : ByteArray) (f : FuncId) (fr cap : Array Value) (p : UInt8 → Bool) (b : Bool) (w : World) (h63 : s.size ≤ 9223372036854775807)
    (HE : ∀ args w, (callFunc f args).run Tryz.prog w = .ok (.enter f args) w)
    (H : ∀ c : UInt8, Calls Tryz.prog f (fr.push (.int .u8 c.toNat) ++ cap) w fun e w' => e = .returned (.bool (p c)) ∧ w = w') (hb : s.data.toList.all p = b) :
    Calls Tryz.prog 131 #[.string s, .func (.func f) fr cap] w fun e w' => e = .returned (.bool b) ∧ w = w' := by
  refine (all_any s f fr cap p w h63 HE H).mono ?_
  rintro e w' ⟨rfl, rfl⟩
  exact ⟨by rw [hb], rfl⟩

/-- One of some function values on bytes, that lies in a cell. -/
def Asks (w : World) (v : Value) (p : UInt8 → Bool) : Prop :=
  ∃ f fr cap, v = .func (.func f) fr cap ∧ (∀ args w, (callFunc f args).run Tryz.prog w = .ok (.enter f args) w) ∧
    ∀ c : UInt8, Calls Tryz.prog f (fr.push (.int .u8 c.toNat) ++ cap) w fun e w' => e = .returned (.bool (p c)) ∧ w = w'

set_option maxHeartbeats 1000000 in
/-- The closure that Any gives, at a variable that holds a slice of such. -/
theorem any1_any (c : UInt8) (bl bs : Nat) (cap : Nat) (ps : List (UInt8 → Bool)) (w : World) (hl : w.cell? ⟨bl, 0, none⟩ = some (.slice (some ⟨bs, 0, none⟩) ps.length cap)) (hn : ps.length ≤ 1000)
    (hc : ∀ i (h : i < ps.length), ∃ v, w.cell? ⟨bs, i, none⟩ = some v ∧ Asks w v ps[i]) :
    Calls Tryz.prog 150 #[.int .u8 c.toNat, .pointer (some ⟨bl, 0, none⟩)] w fun e w' => e = .returned (.bool (ps.any fun p => p c)) ∧ w = w' := by
  have HC := Lib.hid hc; clear hc
  go_enter Tryz.func150, Tryz.ntmps150
  go_wp2
  go_loop [5, 8] (fun _ i => ∃ k : Nat, k ≤ ps.length ∧ i = .int .i64 k ∧ Hid ((ps.take k).any (fun p => p c) = false)) (fun _ i => ps.length - (intOf i).toNat)
  case atStart => exact ⟨0, Nat.zero_le _, rfl, rfl⟩
  case round =>
    obtain ⟨k, hk, rfl, hall⟩ := hrel
    by_cases hlt : k < ps.length
    · obtain ⟨v, hv, f, fr, cp, rfl, hE, hA⟩ := HC.out k hlt
      have HA := Lib.hid (hA c); clear hA
      cases hp : ps[k] c with
      | true =>
        have HT := Lib.hid (show ps.any (fun p => p c) = true by rw [List.any_eq_true]; exact ⟨ps[k], List.getElem_mem _, hp⟩)
        have HP := Lib.hid hp; clear hp
        go_wp2_with (refine HA.out.mono ?_; rintro e w' ⟨rfl, rfl⟩; rw [HP.out])
        go_ret
        exact ⟨ret_bool HT.out.symm, rfl⟩
      | false =>
        have HT := Lib.hid (show (ps.take (k + 1)).any (fun p => p c) = false by rw [List.take_succ_eq_append_getElem hlt, List.any_append, hall.out]; simp [hp])
        have HP := Lib.hid hp; clear hp
        go_wp2_with (refine HA.out.mono ?_; rintro e w' ⟨rfl, rfl⟩; rw [HP.out])
        go_round
        case rel => exact ⟨k + 1, by omega, by go_num, HT⟩
        case measure => simp [intOf]; omega
    · go_wp2
      go_ret
      have : k = ps.length := by omega
      subst this
      have := hall.out
      rw [List.take_length] at this
      exact ⟨ret_bool this.symm, rfl⟩

set_option maxHeartbeats 400000 in
theorem any_any (oa : Option Addr) (n cap : Nat) (w : World) :
    Calls Tryz.prog 124 #[.slice oa n cap] w fun e w' => e = .returned (.func (.func 150) #[] #[.pointer (some ⟨w.heap.size, 0, none⟩)]) ∧ w' = w.alloc (.cells #[.slice oa n cap] 173) := by
  go_enter Tryz.func124, Tryz.ntmps124
  go_wp2
  go_ret
  exact ⟨rfl, rfl⟩

end Go.Proofs.YtdpnahojhmkemaaGreatDoor
