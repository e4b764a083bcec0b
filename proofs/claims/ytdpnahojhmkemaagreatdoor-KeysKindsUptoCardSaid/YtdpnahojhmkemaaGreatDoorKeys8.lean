/-
  Package keys: Value over right's answer.
-/
import Derived.Test.YtdpnahojhmkemaaGreatDoorKeys5
import Derived.Test.YtdpnahojhmkemaaGreatDoorKeys6
import Derived.Test.YtdpnahojhmkemaaGreatDoorKeys7
namespace Go.Proofs.YtdpnahojhmkemaaGreatDoor
open Go Go.RowKit
set_option linter.unusedVariables false
set_option linter.unusedSimpArgs false
set_option maxRecDepth 100000

/-- What Value says, m being right's answer. -/
def valE (form : Int) (list : Bool) (v : Str) (m : Bool) : Int :=
  if form < 1 ∨ 11 < form then 3 else if v = [] ∧ (list = true ∨ form = 1) then 0 else if v = [] ∨ m = false then 12 else 0

set_option maxHeartbeats 2000000 in
theorem value_any (kv : KeyV) (v : Str) (w : World) (m : Bool) (hr : ∀ W, Below w.heap.size w W → Calls Tryz.prog 29 #[.agg (encK kv).toArray, .string ⟨v.toArray⟩] W fun e w' => e = .returned (.bool m) ∧ Below W.heap.size W w') (r : Int) (hv : valE kv.form kv.list v m = r) :
    Calls Tryz.prog 15 #[.agg (encK kv).toArray, .string ⟨v.toArray⟩] w fun e w' => e = .returned (.int .i64 r) ∧ Below w.heap.size w w' := by
  unfold encK at *
  obtain ⟨sec, name, form, list, kinds, wa, wn, wc⟩ := kv
  unfold valE at hv
  simp only at *
  have HR := Lib.hid hr; clear hr
  by_cases h1 : form < 1
  · rw [if_pos (.inl h1)] at hv
    subst hv
    go_enter Tryz.func15, Tryz.ntmps15
    go_wp2_with fail
    go_ret
    exact ⟨rfl, (Below.refl _ _).alloc (Nat.le_refl _) _⟩
  by_cases h2 : 11 < form
  · rw [if_pos (.inr h2)] at hv
    subst hv
    go_enter Tryz.func15, Tryz.ntmps15
    go_wp2_with fail
    go_ret
    exact ⟨rfl, (Below.refl _ _).alloc (Nat.le_refl _) _⟩
  rw [if_neg (by omega)] at hv
  cases v with
  | nil =>
    cases list with
    | true =>
      rw [if_pos (by simp)] at hv
      subst hv
      go_enter Tryz.func15, Tryz.ntmps15
      go_wp2_with fail
      go_ret
      exact ⟨rfl, (Below.refl _ _).alloc (Nat.le_refl _) _⟩
    | false =>
      by_cases h3 : form = 1
      · subst h3
        rw [if_pos (by simp)] at hv
        subst hv
        clear h1 h2
        go_enter Tryz.func15, Tryz.ntmps15
        go_wp2_with fail
        go_ret
        exact ⟨rfl, (Below.refl _ _).alloc (Nat.le_refl _) _⟩
      · rw [if_neg (by simp [h3]), if_pos (by simp)] at hv
        subst hv
        go_enter Tryz.func15, Tryz.ntmps15
        go_wp2_with fail
        go_ret
        exact ⟨rfl, (Below.refl _ _).alloc (Nat.le_refl _) _⟩
  | cons c t =>
    rw [if_neg (by simp)] at hv
    have hsz : (⟨(c :: t).toArray⟩ : ByteArray).size ≠ 0 := by simp [ByteArray.size]
    obtain ⟨n1, n2, n3, n4⟩ := str_ne hsz
    generalize (⟨(c :: t).toArray⟩ : ByteArray) = s at *
    cases m with
    | true =>
      rw [if_neg (by simp)] at hv
      subst hv
      go_enter Tryz.func15, Tryz.ntmps15
      go_wp2_with fail
      refine (HR.out _ ((Below.refl _ _).alloc (Nat.le_refl _) _)).mono ?_
      rintro e w1 ⟨rfl, hb1⟩
      have HB := Lib.hid (((Below.refl w.heap.size w).alloc (Nat.le_refl _) (.cells #[.string ⟨sec.toArray⟩, .string ⟨name.toArray⟩, .int .i64 form, .bool list, .int .i64 kinds, .slice wa wn wc] 28)).trans (hb1.mono (by simp)))
      clear hb1
      go_wp2_with fail
      go_ret
      exact ⟨rfl, HB.out⟩
    | false =>
      rw [if_pos (by simp)] at hv
      subst hv
      go_enter Tryz.func15, Tryz.ntmps15
      go_wp2_with fail
      refine (HR.out _ ((Below.refl _ _).alloc (Nat.le_refl _) _)).mono ?_
      rintro e w1 ⟨rfl, hb1⟩
      have HB := Lib.hid (((Below.refl w.heap.size w).alloc (Nat.le_refl _) (.cells #[.string ⟨sec.toArray⟩, .string ⟨name.toArray⟩, .int .i64 form, .bool list, .int .i64 kinds, .slice wa wn wc] 28)).trans (hb1.mono (by simp)))
      clear hb1
      go_wp2_with fail
      go_ret
      exact ⟨rfl, HB.out⟩
end Go.Proofs.YtdpnahojhmkemaaGreatDoor
