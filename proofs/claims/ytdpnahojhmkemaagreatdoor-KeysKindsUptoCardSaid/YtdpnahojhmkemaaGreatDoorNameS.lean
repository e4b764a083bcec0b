/-
  Plain functions and laws: what package name (cut, plain, Suffix, Kind, Change) computes. No program in sight.
-/
import Derived.Test.YtdpnahojhmkemaaGreatDoorLinesS
namespace Go.Proofs.YtdpnahojhmkemaaGreatDoor
set_option linter.unusedVariables false

/-- What stands ahead of the last point, and behind it. -/
def lastPt : Str → Option (Str × Str)
  | [] => none
  | c :: r => match lastPt r with
    | some (a, b) => some (c :: a, b)
    | none => if c == 46 then some ([], r) else none
def cutPt (s : Str) : Str × Str := (lastPt s).getD ([], [])
/-- What stands ahead of the first @ and behind it. -/
def cutAt : Str → Str × Str × Bool
  | [] => ([], [], false)
  | c :: r => if c == 64 then ([], r, true) else (c :: (cutAt r).1, (cutAt r).2.1, (cutAt r).2.2)
def nameC (c : UInt8) : Bool := isLetter c || (isDigit c || ([58, 45, 95, 46, 92] : Str).contains c)
def nameB (s : Str) : Bool := s.all nameC
abbrev sService : Str := [115, 101, 114, 118, 105, 99, 101]
abbrev sSocket : Str := [115, 111, 99, 107, 101, 116]
abbrev sTimer : Str := [116, 105, 109, 101, 114]
abbrev sTarget : Str := [116, 97, 114, 103, 101, 116]
def sufS (k : Nat) : Str := if k = 1 then sService else if k = 2 then sSocket else if k = 3 then sTimer else if k = 4 then sTarget else []
/-- The kind whose suffix that is, from k on; 0. -/
def kindOf (suf : Str) : Nat := if suf = sService then 1 else if suf = sSocket then 2 else if suf = sTimer then 3 else if suf = sTarget then 4 else 0
def kindS (s : Str) : Nat :=
  if s.length ≤ 60 ∧ (cutAt (cutPt s).1).1 ≠ [] ∧ nameB (cutAt (cutPt s).1).1 = true ∧ nameB (cutAt (cutPt s).1).2.1 = true then kindOf (cutPt s).2 else 0
/-- A name with another kind's suffix. -/
def changeS (s : Str) (k : Nat) : Str :=
  if kindS s ≠ 0 ∧ kindS ((cutPt s).1 ++ 46 :: sufS k) ≠ 0 then (cutPt s).1 ++ 46 :: sufS k else []

theorem lastPt_no {s : Str} (h : s.contains 46 = false) : lastPt s = none := by
  induction s with
  | nil => rfl
  | cons c r ih =>
    rw [List.contains_cons, Bool.or_eq_false_iff] at h
    have hc : (c == 46) = false := by
      rw [beq_eq_false_iff_ne]; intro e; subst e; simp at h
    simp [lastPt, ih h.2, hc]
theorem lastPt_app (a : Str) {b : Str} (h : b.contains 46 = false) : lastPt (a ++ 46 :: b) = some (a, b) := by
  induction a with
  | nil => simp [lastPt, lastPt_no h]
  | cons c r ih => simp [lastPt, ih]
theorem lastPt_cases (s : Str) : (lastPt s = none ∧ s.contains 46 = false) ∨ ∃ a b, lastPt s = some (a, b) ∧ s = a ++ 46 :: b ∧ b.contains 46 = false := by
  induction s with
  | nil => exact .inl ⟨rfl, rfl⟩
  | cons c r ih =>
    rcases ih with ⟨h1, h2⟩ | ⟨a, b, h1, h2, h3⟩
    · cases hc : (c == 46) with
      | true =>
        have := eq_of_beq hc
        subst this
        exact .inr ⟨[], r, by simp [lastPt, h1], rfl, h2⟩
      | false =>
        refine .inl ⟨by simp [lastPt, h1, hc], ?_⟩
        rw [List.contains_cons, h2, Bool.or_false, beq_eq_false_iff_ne]
        rw [beq_eq_false_iff_ne] at hc
        exact fun e => hc e.symm
    · exact .inr ⟨c :: a, b, by simp [lastPt, h1], by rw [h2]; rfl, h3⟩
theorem kindOf_le (s : Str) : kindOf s ≤ 4 := by
  unfold kindOf; repeat' split <;> first | omega | skip
theorem kindS_le (s : Str) : kindS s ≤ 4 := by
  unfold kindS; split
  · exact kindOf_le _
  · omega
theorem cutPt_len (s : Str) : (cutPt s).1.length ≤ s.length ∧ (cutPt s).2.length ≤ s.length := by
  unfold cutPt
  rcases lastPt_cases s with ⟨h, _⟩ | ⟨a, b, h, h2, _⟩
  · rw [h]; simp
  · rw [h, h2]; simp; omega
theorem cutAt_len : ∀ (s : Str), (cutAt s).1.length ≤ s.length ∧ (cutAt s).2.1.length ≤ s.length
  | [] => by simp [cutAt]
  | c :: r => by
    have := cutAt_len r
    unfold cutAt
    split <;> simp <;> omega
end Go.Proofs.YtdpnahojhmkemaaGreatDoor
