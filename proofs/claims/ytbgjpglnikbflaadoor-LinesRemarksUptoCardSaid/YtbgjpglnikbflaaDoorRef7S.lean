/-
  Plain laws: the reference's trimming is the other one. No program in sight.
-/
import Derived.Test.YtbgjpglnikbflaaDoorLinesN
namespace Go.Proofs.YtbgjpglnikbflaaDoor
set_option linter.unusedVariables false

/-- Without blanks at its end. -/
def trimE (l : Str) : Str := (l.reverse.dropWhile isBlank).reverse
theorem trimE_cons (c : UInt8) (t : Str) : trimE (c :: t) = if (t.reverse.dropWhile isBlank).isEmpty then (if isBlank c then [] else [c]) else c :: trimE t := by
  unfold trimE
  rw [List.reverse_cons, List.dropWhile_append]
  split
  · by_cases h : isBlank c
    · simp [h]
    · simp [h]
  · simp
theorem trimE_trimS : ∀ (l : Str), trimE (l.dropWhile isBlank) = trimS l
  | [] => rfl
  | c :: t => by
    have ih := trimE_trimS t
    have hs : trimS (c :: t) = (trimE (c :: t)).dropWhile isBlank := rfl
    have hs' : trimS t = (trimE t).dropWhile isBlank := rfl
    rw [hs, List.dropWhile_cons]
    cases hc : isBlank c with
    | true =>
      rw [if_pos rfl, ih, trimE_cons, hs']
      split
      · rename_i h
        have : trimE t = [] := by unfold trimE; rw [List.isEmpty_iff.1 h]; rfl
        simp [this]
      · rw [List.dropWhile_cons, if_pos hc]
    | false =>
      rw [if_neg (by simp), trimE_cons]
      split
      · simp [hc]
      · rw [List.dropWhile_cons, if_neg (by simp [hc])]
theorem trimE_stop {l : Str} (h : ∀ c, l.getLast? = some c → isBlank c = false) : trimE l = l := by
  unfold trimE
  rw [dropWhile_id (l := l.reverse) (by
    intro c t e
    apply h
    have : l = t.reverse ++ [c] := by rw [← List.reverse_reverse l, e]; simp
    rw [this]; simp)]
  exact List.reverse_reverse l
theorem trimE_step {l : Str} {c : UInt8} (h : l.getLast? = some c) (hc : isBlank c = true) : trimE l = trimE l.dropLast := by
  obtain ⟨t, rfl⟩ := List.getLast?_eq_some_iff.1 h
  unfold trimE
  simp [hc]
/-- Where the first = is; -1. -/
def eqAtR (s : Str) : Int := match cutEq s with
  | some (k, _) => (k.length : Int)
  | none => -1
theorem cutEq_no {s : Str} (h : s.contains 61 = false) : cutEq s = none := by
  induction s with
  | nil => rfl
  | cons c r ih =>
    rw [List.contains_cons, Bool.or_eq_false_iff] at h
    have hc : (c == 61) = false := by
      rw [beq_eq_false_iff_ne]; intro e; subst e; simp at h
    unfold cutEq
    rw [hc, ih h.2]
    rfl
theorem eqAtR_app {k : Str} (h : k.contains 61 = false) (v : Str) : eqAtR (k ++ 61 :: v) = k.length := by
  unfold eqAtR; rw [cutEq_app h]
theorem eqAtR_no {k : Str} (h : k.contains 61 = false) : eqAtR k = -1 := by
  unfold eqAtR; rw [cutEq_no h]

/-! Joining, without numbers. -/
theorem joinS_any : ∀ (r : List Str) (t : Str) (n m : Nat), (joinS t r n).1 = (joinS t r m).1 ∧ (joinS t r n).2.1 = (joinS t r m).2.1
  | [], t, n, m => by unfold joinS; split <;> exact ⟨rfl, rfl⟩
  | x :: r, t, n, m => by
    unfold joinS
    split
    · split
      · exact joinS_any r t (n + 1) (m + 1)
      · exact joinS_any r _ (n + 1) (m + 1)
    · exact ⟨rfl, rfl⟩
def jn (t : Str) (r : List Str) : Str × List Str := ((joinS t r 0).1, (joinS t r 0).2.1)
theorem jn_eq (t : Str) (r : List Str) (n : Nat) : jn t r = ((joinS t r n).1, (joinS t r n).2.1) := by
  unfold jn
  rw [(joinS_any r t 0 n).1, (joinS_any r t 0 n).2]
theorem jn_stay {t : Str} {r : List Str} (h : goesOn t = false) : jn t r = (t, r) := by
  unfold jn; rw [joinS_stay h]
theorem jn_end {t : Str} (h : goesOn t = true) : jn t [] = (t.dropLast ++ [32], []) := by
  unfold jn joinS; rw [if_pos h]
theorem jn_step {t x : Str} {r : List Str} (h : goesOn t = true) (hx : isRemark x = true) : jn t (x :: r) = jn t r := by
  rw [jn_eq t r 1]
  unfold jn
  conv => lhs; unfold joinS
  rw [if_pos h, if_pos hx]
theorem jn_take {t x : Str} {r : List Str} (h : goesOn t = true) (hx : isRemark x = false) : jn t (x :: r) = jn (t.dropLast ++ [32] ++ x) r := by
  rw [jn_eq _ r 1]
  unfold jn
  conv => lhs; unfold joinS
  rw [if_pos h, if_neg (by simp [hx])]
theorem joinS_num' : ∀ (r : List Str) (s : Str) (n : Nat), (joinS s r n).2.2 + (joinS s r n).2.1.length = n + r.length
  | [], s, n => by unfold joinS; split <;> simp
  | x :: r, s, n => by
    unfold joinS
    split
    · split
      · have := joinS_num' r s (n + 1); simp; omega
      · have := joinS_num' r (s.dropLast ++ [32] ++ x) (n + 1); simp at this ⊢; omega
    · simp
theorem goesOn_blank (t : Str) : goesOn (t ++ [32]) = false := by simp [goesOn]
/-- What a whole line leaves of the rows. -/
theorem wholes_next {rows : List Str} {k k' : Nat} {x t : Str} (hk : rows.drop k = x :: rows.drop (k + 1)) (hx : (isRemark x || isVoid x) = false) (hkl : k < rows.length) (hk' : k' ≤ rows.length)
    (hj : jn x (rows.drop (k + 1)) = (t, rows.drop (k' + 1))) : wholes (rows.drop k) k = (t, k + 1) :: wholes (rows.drop (k' + 1)) (k' + 1) := by
  rw [hk, wholes_line hx]
  rw [jn_eq _ _ (k + 1)] at hj
  injection hj with h1 h2
  rw [h1, h2]
  congr 1
  by_cases he : k' = rows.length
  · rw [List.drop_eq_nil_of_le (by omega)]; rfl
  · have := joinS_num' (rows.drop (k + 1)) x (k + 1)
    rw [h2] at this
    simp at this
    rw [show (joinS x (rows.drop (k + 1)) (k + 1)).2.2 = k' + 1 by omega]
theorem bulkR_drop (rows : List Str) : ∀ k, bulkR (rows.drop k) ≤ bulkR rows := by
  induction rows with
  | nil => intro k; simp
  | cons x r ih =>
    intro k
    cases k with
    | zero => simp
    | succ k => have := ih k; simp [bulkR]; omega
theorem wholesS_len : ∀ (f : Nat) (r : List Str) (n : Nat), (wholesS f r n).length ≤ r.length
  | 0, _, _ => by simp [wholesS]
  | _ + 1, [], _ => by simp [wholesS]
  | f + 1, x :: r, n => by
    unfold wholesS
    split
    · have := wholesS_len f r (n + 1); simp; omega
    · have := wholesS_len f (joinS x r (n + 1)).2.1 (joinS x r (n + 1)).2.2
      have := joinS_len r x (n + 1)
      simp; omega
end Go.Proofs.YtbgjpglnikbflaaDoor
