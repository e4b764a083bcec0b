/-
  Decimal numbers. No program in sight.
-/
import Derived.Test.YtdpnahojhmkemaaGreatDoorLinesS
import Derived.Lib.Atoi
namespace Go.Proofs.YtdpnahojhmkemaaGreatDoor
set_option linter.unusedVariables false
set_option linter.unusedSimpArgs false

def decF (acc : Nat) (l : Str) : Nat := l.foldl (fun n c => n * 10 + (c.toNat - 48)) acc
def decS (l : Str) : Nat := decF 0 l
theorem isDigit_nat (c : UInt8) : isDigit c = true ↔ 48 ≤ c.toNat ∧ c.toNat ≤ 57 := by
  simp [isDigit, UInt8.le_iff_toNat_le]
theorem decFrom_digits : ∀ (l : Str) (acc : Nat), l.all isDigit = true → Go.Lib.decFrom acc l = some (decF acc l)
  | [], acc, _ => rfl
  | c :: t, acc, h => by
    simp only [List.all_cons, Bool.and_eq_true] at h
    have h1 := (isDigit_nat c).1 h.1
    rw [Go.Lib.decFrom, Go.Lib.digitVal, if_pos h1]
    exact decFrom_digits t _ h.2
theorem atoi_digits (l : Str) (h0 : l ≠ []) (h : l.all isDigit = true) : Go.Lib.atoi l = some ((decS l : Nat) : Int) := by
  cases l with
  | nil => exact absurd rfl h0
  | cons c t =>
    have hc := (isDigit_nat c).1 (by simp only [List.all_cons, Bool.and_eq_true] at h; exact h.1)
    have h1 : (c == 45) = false := by
      rw [beq_eq_false_iff_ne]; intro e; subst e; revert hc; decide
    have h2 : (c == 43) = false := by
      rw [beq_eq_false_iff_ne]; intro e; subst e; revert hc; decide
    unfold Go.Lib.atoi
    simp only [h1, h2]
    have h3 := decFrom_digits (c :: t) 0 h
    unfold Go.Lib.decNat
    rw [if_neg (by simp), h3]
    rfl
theorem decF_lt : ∀ (l : Str) (acc : Nat), l.all isDigit = true → decF acc l < (acc + 1) * 10 ^ l.length
  | [], acc, _ => by simp [decF]
  | c :: t, acc, h => by
    simp only [List.all_cons, Bool.and_eq_true] at h
    have h1 := (isDigit_nat c).1 h.1
    have ih := decF_lt t (acc * 10 + (c.toNat - 48)) h.2
    have e : decF acc (c :: t) = decF (acc * 10 + (c.toNat - 48)) t := rfl
    rw [e, List.length_cons, Nat.pow_succ]
    refine Nat.lt_of_lt_of_le ih ?_
    rw [Nat.mul_comm (10 ^ t.length) 10, ← Nat.mul_assoc]
    exact Nat.mul_le_mul_right _ (by omega)
theorem decS_lt (l : Str) (h : l.all isDigit = true) (n : Nat) (hn : l.length ≤ n) : decS l < 10 ^ n := by
  have := decF_lt l 0 h
  rw [Nat.zero_add, Nat.one_mul] at this
  exact Nat.lt_of_lt_of_le this (Nat.pow_le_pow_right (by decide) hn)
theorem decF_snoc (acc : Nat) (l : Str) (c : UInt8) : decF acc (l ++ [c]) = decF acc l * 10 + (c.toNat - 48) := by
  unfold decF; rw [List.foldl_append]; rfl
end Go.Proofs.YtdpnahojhmkemaaGreatDoor
