/-
  Spans of time, plain. No program in sight.
-/
import Derived.Test.YtdpnahojhmkemaaGreatDoorNumS
import Derived.Test.YtdpnahojhmkemaaGreatDoorFldS
namespace Go.Proofs.YtdpnahojhmkemaaGreatDoor
set_option linter.unusedVariables false
set_option linter.unusedSimpArgs false

def secS (u : Str) : Int :=
  if u = [] then 1 else
  if u = [115] then 1 else
  if u = [115, 101, 99] then 1 else
  if u = [109] then 60 else
  if u = [109, 105, 110] then 60 else
  if u = [104] then 3600 else
  if u = [104, 114] then 3600 else
  if u = [100] then 86400 else
  if u = [100, 97, 121] then 86400 else
  if u = [119] then 604800 else
  if u = [119, 101, 101, 107] then 604800 else
  0
theorem secS_le (u : Str) : 0 ≤ secS u ∧ secS u ≤ 604800 := by
  unfold secS
  repeat' split
  all_goals decide
/-- What word says: how many seconds. -/
def wrdS (s : Str) : Int × Bool :=
  if (s.takeWhile isDigit).length < 1 ∨ 10 < (s.takeWhile isDigit).length ∨ secS (s.drop (s.takeWhile isDigit).length) = 0 then (0, false)
  else (((decS (s.take (s.takeWhile isDigit).length) : Nat) : Int) * secS (s.drop (s.takeWhile isDigit).length), true)
theorem takeWhile_len {p : UInt8 → Bool} : ∀ l : Str, (l.takeWhile p).length ≤ l.length
  | [] => by simp
  | c :: t => by
    rw [List.takeWhile_cons]
    split
    · have := takeWhile_len (p := p) t; simp; omega
    · simp
theorem takeWhile_at (p : UInt8 → Bool) : ∀ (l : Str) (k : Nat) (h : k < l.length), k ≤ (l.takeWhile p).length → p l[k] = decide (k < (l.takeWhile p).length)
  | c :: t, 0, h, _ => by
    rw [List.takeWhile_cons]
    cases hp : p c with
    | true => simp [hp]
    | false => simp [hp]
  | c :: t, k + 1, h, hk => by
    rw [List.takeWhile_cons] at hk ⊢
    cases hp : p c with
    | true =>
      rw [hp] at hk
      simp only [if_true, List.length_cons] at hk
      have := takeWhile_at p t k (by simpa using h) (by omega)
      simp only [List.getElem_cons_succ, if_true, List.length_cons]
      rw [this, decide_eq_decide]; omega
    | false =>
      rw [hp] at hk
      simp at hk
theorem takeWhile_all (p : UInt8 → Bool) : ∀ l : Str, (l.take (l.takeWhile p).length).all p = true
  | [] => rfl
  | c :: t => by
    rw [List.takeWhile_cons]
    cases hp : p c with
    | true => simp [hp]; intro x hx; have := takeWhile_all p t; rw [List.all_eq_true] at this; exact this x hx
    | false => simp
theorem wrdS_nonneg (s : Str) : 0 ≤ (wrdS s).1 ∧ (wrdS s).1 ≤ 10000000000 * 604800 := by
  unfold wrdS
  split
  · simp
  · rename_i h
    have h1 := secS_le (s.drop (s.takeWhile isDigit).length)
    have h2 := decS_lt _ (takeWhile_all isDigit s) 10 (by rw [List.length_take]; omega)
    refine ⟨Int.mul_nonneg (by omega) h1.1, Int.mul_le_mul (by omega) h1.2 h1.1 (by omega)⟩
def spanL : List Str → Int → Option Int
  | [], n => some n
  | x :: t, n => if (wrdS x).2 = false then none else if n + (wrdS x).1 > 6311433600 then none else spanL t (n + (wrdS x).1)
/-- What Parse says. -/
def spanS (s : Str) : Int × Bool :=
  if s = [105, 110, 102, 105, 110, 105, 116, 121] then (1099511627776, true)
  else match spanL (blanksS s) 0 with
    | none => (0, false)
    | some n => (n, decide (0 < (blanksS s).length))
end Go.Proofs.YtdpnahojhmkemaaGreatDoor
