import Derived.Lib.Atoi
import Derived.Test.YtdpnahojhmkemaaGreatDoorKP1
namespace Go.Proofs.YtdpnahojhmkemaaGreatDoor
set_option linter.unusedVariables false
set_option linter.unusedSimpArgs false
def decF (acc : Nat) (l : Str) : Nat := l.foldl (fun n c => n * 10 + (c.toNat - 48)) acc
def decS (l : Str) : Nat := decF 0 l
theorem isDigit_nat (c : UInt8) : isDigit c = true ↔ 48 ≤ c.toNat ∧ c.toNat ≤ 57 := by
 simp [isDigit, UInt8.le_iff_toNat_le]
theorem decFrom_digits : ∀ (l : Str) (acc : Nat), l.all isDigit = true → Go.Lib.decFrom acc l = some (decF acc l)
 | [], acc, _ => rfl
 | c :: t, acc, h => by
  simp only [List.all_cons, Bool.and_eq_true] at h
  have h1 := (isDigit_nat c).1 h.1
  rw [Go.Lib.decFrom, Go.Lib.digitVal, if_pos h1]
  exact decFrom_digits t _ h.2
theorem atoi_digits (l : Str) (h0 : l ≠ []) (h : l.all isDigit = true) : Go.Lib.atoi l = some ((decS l : Nat) : Int) := by
 cases l with
 | nil => exact absurd rfl h0
 | cons c t =>
  have hc := (isDigit_nat c).1 (by simp only [List.all_cons, Bool.and_eq_true] at h; exact h.1)
  have h1 : (c == 45) = false := by
   rw [beq_eq_false_iff_ne]; intro e; subst e; revert hc; decide
  have h2 : (c == 43) = false := by
   rw [beq_eq_false_iff_ne]; intro e; subst e; revert hc; decide
  unfold Go.Lib.atoi
  simp only [h1, h2]
  have h3 := decFrom_digits (c :: t) 0 h
  unfold Go.Lib.decNat
  rw [if_neg (by simp), h3]
  rfl
theorem decF_lt : ∀ (l : Str) (acc : Nat), l.all isDigit = true → decF acc l < (acc + 1) * 10 ^ l.length
 | [], acc, _ => by simp [decF]
 | c :: t, acc, h => by
  simp only [List.all_cons, Bool.and_eq_true] at h
  have h1 := (isDigit_nat c).1 h.1
  have ih := decF_lt t (acc * 10 + (c.toNat - 48)) h.2
  have e : decF acc (c :: t) = decF (acc * 10 + (c.toNat - 48)) t := rfl
  rw [e, List.length_cons, Nat.pow_succ]
  refine Nat.lt_of_lt_of_le ih ?_
  rw [Nat.mul_comm (10 ^ t.length) 10, ← Nat.mul_assoc]
  exact Nat.mul_le_mul_right _ (by omega)
theorem decS_lt (l : Str) (h : l.all isDigit = true) (n : Nat) (hn : l.length ≤ n) : decS l < 10 ^ n := by
 have := decF_lt l 0 h
 rw [Nat.zero_add, Nat.one_mul] at this
 exact Nat.lt_of_lt_of_le this (Nat.pow_le_pow_right (by decide) hn)
theorem decF_snoc (acc : Nat) (l : Str) (c : UInt8) : decF acc (l ++ [c]) = decF acc l * 10 + (c.toNat - 48) := by
 unfold decF; rw [List.foldl_append]; rfl
end Go.Proofs.YtdpnahojhmkemaaGreatDoor
namespace Go.Proofs.YtdpnahojhmkemaaGreatDoor
set_option linter.unusedVariables false
set_option linter.unusedSimpArgs false
def secS (u : Str) : Int :=
 if u = [] then 1 else
 if u = [115] then 1 else
 if u = [115, 101, 99] then 1 else
 if u = [109] then 60 else
 if u = [109, 105, 110] then 60 else
 if u = [104] then 3600 else
 if u = [104, 114] then 3600 else
 if u = [100] then 86400 else
 if u = [100, 97, 121] then 86400 else
 if u = [119] then 604800 else
 if u = [119, 101, 101, 107] then 604800 else
 0
theorem secS_le (u : Str) : 0 ≤ secS u ∧ secS u ≤ 604800 := by
 unfold secS
 repeat' split
 all_goals decide
def wrdS (s : Str) : Int × Bool :=
 if (s.takeWhile isDigit).length < 1 ∨ 10 < (s.takeWhile isDigit).length ∨ secS (s.drop (s.takeWhile isDigit).length) = 0 then (0, false)
 else (((decS (s.take (s.takeWhile isDigit).length) : Nat) : Int) * secS (s.drop (s.takeWhile isDigit).length), true)
theorem takeWhile_len {p : UInt8 → Bool} : ∀ l : Str, (l.takeWhile p).length ≤ l.length
 | [] => by simp
 | c :: t => by
  rw [List.takeWhile_cons]
  split
  ·have := takeWhile_len (p := p) t; simp; omega
  ·simp
theorem takeWhile_at (p : UInt8 → Bool) : ∀ (l : Str) (k : Nat) (h : k < l.length), k ≤ (l.takeWhile p).length → p l[k] = decide (k < (l.takeWhile p).length)
 | c :: t, 0, h, _ => by
  rw [List.takeWhile_cons]
  cases hp : p c with
  | true => simp [hp]
  | false => simp [hp]
 | c :: t, k + 1, h, hk => by
  rw [List.takeWhile_cons] at hk ⊢
  cases hp : p c with
  | true =>
   rw [hp] at hk
   simp only [if_true, List.length_cons] at hk
   have := takeWhile_at p t k (by simpa using h) (by omega)
   simp only [List.getElem_cons_succ, if_true, List.length_cons]
   rw [this, decide_eq_decide]; omega
  | false =>
   rw [hp] at hk
   simp at hk
theorem takeWhile_all (p : UInt8 → Bool) : ∀ l : Str, (l.take (l.takeWhile p).length).all p = true
 | [] => rfl
 | c :: t => by
  rw [List.takeWhile_cons]
  cases hp : p c with
  | true => simp [hp]; intro x hx; have := takeWhile_all p t; rw [List.all_eq_true] at this; exact this x hx
  | false => simp
theorem wrdS_nonneg (s : Str) : 0 ≤ (wrdS s).1 ∧ (wrdS s).1 ≤ 10000000000 * 604800 := by
 unfold wrdS
 split
 ·simp
 ·rename_i h
  have h1 := secS_le (s.drop (s.takeWhile isDigit).length)
  have h2 := decS_lt _ (takeWhile_all isDigit s) 10 (by rw [List.length_take]; omega)
  refine ⟨Int.mul_nonneg (by omega) h1.1, Int.mul_le_mul (by omega) h1.2 h1.1 (by omega)⟩
def spanL : List Str → Int → Option Int
 | [], n => some n
 | x :: t, n => if (wrdS x).2 = false then none else if n + (wrdS x).1 > 6311433600 then none else spanL t (n + (wrdS x).1)
def spanS (s : Str) : Int × Bool :=
 if s = [105, 110, 102, 105, 110, 105, 116, 121] then (1099511627776, true)
 else match spanL (blanksS s) 0 with
  | none => (0, false)
  | some n => (n, decide (0 < (blanksS s).length))
end Go.Proofs.YtdpnahojhmkemaaGreatDoor
namespace Go.Proofs.YtdpnahojhmkemaaGreatDoor
set_option linter.unusedVariables false
set_option linter.unusedSimpArgs false
theorem wrd_long (x : Str) (h : 10 < (x.takeWhile isDigit).length) : wrdS x = (0, false) := by
 unfold wrdS; rw [if_pos (.inr (.inl h))]
theorem wrd_short (x : Str) (h : (x.takeWhile isDigit).length < 1) : wrdS x = (0, false) := by
 unfold wrdS; rw [if_pos (.inl h)]
theorem wrd_none (x : Str) (h : secS (x.drop (x.takeWhile isDigit).length) = 0) : wrdS x = (0, false) := by
 unfold wrdS; rw [if_pos (.inr (.inr h))]
theorem wrd_ok (x : Str) (h1 : ¬ (x.takeWhile isDigit).length < 1) (h2 : ¬ 10 < (x.takeWhile isDigit).length) (h3 : secS (x.drop (x.takeWhile isDigit).length) ≠ 0) :
  wrdS x = (((decS (x.take (x.takeWhile isDigit).length) : Nat) : Int) * secS (x.drop (x.takeWhile isDigit).length), true) := by
 unfold wrdS; rw [if_neg (by rintro (h | h | h) <;> first | exact h1 h | exact h2 h | exact h3 h)]
theorem span_no (x : Str) (t : List Str) (n : Int) (h : (wrdS x).2 = false) : spanL (x :: t) n = none := by
 rw [spanL, if_pos h]
theorem span_big (x : Str) (t : List Str) (n m : Int) (h : wrdS x = (m, true)) (hb : n + m > 6311433600) : spanL (x :: t) n = none := by
 rw [spanL, h, if_neg (by simp), if_pos hb]
theorem span_go (x : Str) (t : List Str) (n m : Int) (h : wrdS x = (m, true)) (hb : ¬ n + m > 6311433600) : spanL (x :: t) n = spanL t (n + m) := by
 rw [spanL, h, if_neg (by simp), if_neg hb]
theorem quo_over (n u : Int) (hu : 0 < u) (hn : 0 ≤ n) (h : ¬ n ≤ 6311433600 / u) : n * u > 6311433600 := by
 have h1 : 6311433600 / u + 1 ≤ n := by omega
 have h2 : (6311433600 / u + 1) * u ≤ n * u := Int.mul_le_mul_of_nonneg_right h1 (Int.le_of_lt hu)
 have h3 := Int.emod_add_mul_ediv 6311433600 u
 have h4 := Int.emod_lt_of_pos 6311433600 hu
 rw [Int.add_mul, Int.one_mul, Int.mul_comm (6311433600 / u) u] at h2
 omega
theorem quo_under (n u : Int) (hu : 0 < u) (hn : 0 ≤ n) (h : n ≤ 6311433600 / u) : n * u ≤ 6311433600 := by
 have h1 : n ≤ 6311433600 / u := h
 have h2 : n * u ≤ (6311433600 / u) * u := Int.mul_le_mul_of_nonneg_right h1 (Int.le_of_lt hu)
 have h3 := Int.emod_add_mul_ediv 6311433600 u
 have h4 := Int.emod_nonneg 6311433600 (Int.ne_of_gt hu)
 rw [Int.mul_comm (6311433600 / u) u] at h2
 omega
theorem take_dec (x : Str) (k : Nat) (h : k < x.length) : decS (x.take (k + 1)) = decS (x.take k) * 10 + (x[k].toNat - 48) := by
 rw [List.take_succ_eq_append_getElem h]; exact decF_snoc 0 _ _
end Go.Proofs.YtdpnahojhmkemaaGreatDoor
