/-
  Plain laws of package lines' functions. No program in sight.
-/
import Derived.Test.YtbgjpglnikbflaaDoorLinesS
namespace Go.Proofs.YtbgjpglnikbflaaDoor
set_option linter.unusedVariables false

theorem joinS_len : ∀ (r : List Str) (s : Str) (n : Nat), (joinS s r n).2.1.length ≤ r.length
  | [], s, n => by unfold joinS; split <;> simp
  | x :: r, s, n => by
    unfold joinS
    split
    · split
      · have := joinS_len r s (n + 1); simp; omega
      · have := joinS_len r (s.dropLast ++ [32] ++ x) (n + 1); simp at this ⊢; omega
    · simp

theorem wholes_fuel : ∀ (f g : Nat) (r : List Str) (n : Nat), r.length < f → r.length < g → wholesS f r n = wholesS g r n
  | 0, _, _, _, h, _ => absurd h (by omega)
  | _, 0, _, _, _, h => absurd h (by omega)
  | f + 1, g + 1, [], n, _, _ => rfl
  | f + 1, g + 1, x :: r, n, h1, h2 => by
    simp only [List.length_cons] at h1 h2
    unfold wholesS
    split
    · exact wholes_fuel f g r _ (by omega) (by omega)
    · have := joinS_len r x (n + 1)
      rw [wholes_fuel f g _ _ (by omega) (by omega)]

/-- All whole lines of some rows. -/
def wholes (r : List Str) (n : Nat) : List (Str × Nat) := wholesS (r.length + 1) r n
theorem wholes_of {f : Nat} {r : List Str} {n : Nat} (h : r.length < f) : wholesS f r n = wholes r n := wholes_fuel _ _ _ _ h (by omega)
theorem wholes_nil (n : Nat) : wholes [] n = [] := rfl
theorem wholes_skip {x : Str} {r : List Str} {n : Nat} (h : (isRemark x || isVoid x) = true) : wholes (x :: r) n = wholes r (n + 1) := by
  unfold wholes; rw [List.length_cons]
  conv => lhs; unfold wholesS
  rw [if_pos h]
theorem wholes_line {x : Str} {r : List Str} {n : Nat} (h : (isRemark x || isVoid x) = false) : wholes (x :: r) n = ((joinS x r (n + 1)).1, n + 1) :: wholes (joinS x r (n + 1)).2.1 (joinS x r (n + 1)).2.2 := by
  have := joinS_len r x (n + 1)
  unfold wholes; rw [List.length_cons]
  conv => lhs; unfold wholesS
  rw [if_neg (by simp [h]), wholes_fuel (r.length + 1) ((joinS x r (n + 1)).2.1.length + 1) _ _ (by omega) (by omega)]
theorem joinS_stay {x : Str} {r : List Str} {n : Nat} (h : goesOn x = false) : joinS x r n = (x, r, n) := by
  cases r <;> simp [joinS, h]
theorem wholes_plain {x : Str} {r : List Str} {n : Nat} (h : (isRemark x || isVoid x) = false) (hg : goesOn x = false) : wholes (x :: r) n = (x, n + 1) :: wholes r (n + 1) := by
  rw [wholes_line h, joinS_stay hg]
theorem parseR_eq (r : List Str) : parseR r = readS (wholes r 0) [] [] := rfl

/-! Rows. -/
theorem rowsS_ne (t : Str) : rowsS t ≠ [] := by
  cases t with
  | nil => simp [rowsS]
  | cons c r =>
    unfold rowsS
    split
    · simp
    · split <;> simp
theorem rowsS_app {a : Str} (h : a.contains 10 = false) (b : Str) : rowsS (a ++ 10 :: b) = a :: rowsS b := by
  induction a with
  | nil => simp [rowsS]
  | cons c r ih =>
    rw [List.contains_cons, Bool.or_eq_false_iff] at h
    have hc : (c == 10) = false := by
      rw [beq_eq_false_iff_ne]; intro e; subst e; simp at h
    rw [List.cons_append]
    conv => lhs; unfold rowsS
    rw [hc, ih h.2]
    rfl
theorem rowsS_len : ∀ (t : Str), (rowsS t).length ≤ t.length + 1
  | [] => by simp [rowsS]
  | c :: r => by
    have ih := rowsS_len r
    unfold rowsS
    split
    · simp; omega
    · split
      · simp
      · rename_i h; rw [h] at ih; simp at ih ⊢; omega
/-- How much stands in rows. -/
def bulkR : List Str → Nat
  | [] => 0
  | x :: r => x.length + 1 + bulkR r
theorem rowsS_bulk : ∀ (t : Str), bulkR (rowsS t) = t.length + 1
  | [] => by simp [rowsS, bulkR]
  | c :: r => by
    have ih := rowsS_bulk r
    unfold rowsS
    split
    · simp [bulkR]; omega
    · split
      · rename_i h; rw [h] at ih; simp [bulkR] at ih
      · rename_i h; rw [h] at ih; simp [bulkR] at ih ⊢; omega
def bulkW : List (Str × Nat) → Nat
  | [] => 0
  | x :: r => x.1.length + 1 + bulkW r
theorem goesOn_ne {s : Str} (h : goesOn s = true) : s ≠ [] := by
  intro e; subst e; simp [goesOn] at h
theorem joinS_bulk : ∀ (r : List Str) (s : Str) (n : Nat), (joinS s r n).1.length + bulkR (joinS s r n).2.1 ≤ s.length + bulkR r
  | [], s, n => by
    unfold joinS
    split
    · rename_i h
      have := List.length_pos_iff.2 (goesOn_ne h)
      simp [bulkR]; omega
    · simp
  | x :: r, s, n => by
    unfold joinS
    split
    · rename_i h
      have hp := List.length_pos_iff.2 (goesOn_ne h)
      split
      · have := joinS_bulk r s (n + 1); simp [bulkR]; omega
      · have := joinS_bulk r (s.dropLast ++ [32] ++ x) (n + 1); simp [bulkR] at this ⊢; omega
    · simp
theorem wholesS_bulk : ∀ (f : Nat) (r : List Str) (n : Nat), bulkW (wholesS f r n) ≤ bulkR r
  | 0, _, _ => by simp [wholesS, bulkW]
  | _ + 1, [], _ => by simp [wholesS, bulkW]
  | f + 1, x :: r, n => by
    unfold wholesS
    split
    · have := wholesS_bulk f r (n + 1); simp [bulkR]; omega
    · have h1 := joinS_bulk r x (n + 1)
      have h2 := wholesS_bulk f (joinS x r (n + 1)).2.1 (joinS x r (n + 1)).2.2
      simp [bulkR, bulkW]; omega

/-! Trimming. -/
theorem dropWhile_id {l : Str} {p : UInt8 → Bool} (h : ∀ c t, l = c :: t → p c = false) : l.dropWhile p = l := by
  cases l with
  | nil => rfl
  | cons c t => rw [List.dropWhile_cons, if_neg (by simp [h c t rfl])]
theorem dropWhile_head {l : Str} {p : UInt8 → Bool} {c : UInt8} {t : Str} (h : l.dropWhile p = c :: t) : p c = false := by
  induction l with
  | nil => simp at h
  | cons a r ih =>
    rw [List.dropWhile_cons] at h
    split at h
    · exact ih h
    · injection h with h1 h2; subst h1; exact Bool.eq_false_iff.2 ‹_›
/-- Nothing to trim at an end where no blank stands. -/
theorem trimS_id {l : Str} (h1 : ∀ c t, l = c :: t → isBlank c = false) (h2 : ∀ c, l.getLast? = some c → isBlank c = false) : trimS l = l := by
  unfold trimS
  rw [dropWhile_id (l := l.reverse) (by
    intro c t e
    apply h2
    have : l = t.reverse ++ [c] := by rw [← List.reverse_reverse l, e]; simp
    rw [this]; simp)]
  rw [List.reverse_reverse]
  exact dropWhile_id h1
theorem trimS_head {l : Str} {c : UInt8} {t : Str} (h : trimS l = c :: t) : isBlank c = false := dropWhile_head h
theorem trimR_eq (l : Str) : (l.reverse.dropWhile isBlank).reverse <+: l := by
  have := List.dropWhile_suffix (l := l.reverse) isBlank
  have := List.reverse_prefix.2 this
  simpa using this
theorem trimS_infix (l : Str) : trimS l <:+: l := by
  unfold trimS
  exact ((List.dropWhile_suffix isBlank).isInfix).trans (trimR_eq l).isInfix
theorem trimS_len (l : Str) : (trimS l).length ≤ l.length := (trimS_infix l).length_le
theorem trimS_last {l : Str} {c : UInt8} (h : (trimS l).getLast? = some c) : isBlank c = false := by
  have h1 : (l.reverse.dropWhile isBlank).reverse.getLast? = some c := by
    obtain ⟨p, hp⟩ := List.dropWhile_suffix (l := (l.reverse.dropWhile isBlank).reverse) isBlank
    unfold trimS at h
    rw [← hp, List.getLast?_append, h]
    rfl
  rw [List.getLast?_reverse] at h1
  cases hl : l.reverse.dropWhile isBlank with
  | nil => rw [hl] at h1; simp at h1
  | cons a r =>
    rw [hl] at h1
    simp at h1
    subst h1
    exact dropWhile_head hl
theorem trimS_idem (l : Str) : trimS (trimS l) = trimS l :=
  trimS_id (fun c t h => trimS_head h) (fun c h => trimS_last h)
theorem goodS_infix {a b : Str} (h : a <:+: b) (hb : goodS b = true) : goodS a = true := by
  unfold goodS at *
  rw [List.all_eq_true] at *
  exact fun c hc => hb c (h.subset hc)
theorem isVoid_blank : isVoid [32, 9] = true := by decide
theorem cutEq_len : ∀ {s k v : Str}, cutEq s = some (k, v) → s = k ++ 61 :: v
  | [], _, _, h => by simp [cutEq] at h
  | c :: r, k, v, h => by
    unfold cutEq at h
    split at h
    · rename_i hc
      simp at h
      obtain ⟨rfl, rfl⟩ := h
      simp at hc
      simp [hc]
    · split at h
      · rename_i a b hr
        simp at h
        obtain ⟨rfl, rfl⟩ := h
        rw [cutEq_len hr]; simp
      · cases h
theorem cutEq_app {k : Str} (h : k.contains 61 = false) (v : Str) : cutEq (k ++ 61 :: v) = some (k, v) := by
  induction k with
  | nil => simp [cutEq]
  | cons c r ih =>
    rw [List.contains_cons, Bool.or_eq_false_iff] at h
    have hc : (c == 61) = false := by
      rw [beq_eq_false_iff_ne]; intro e; subst e; simp at h
    rw [List.cons_append]
    conv => lhs; unfold cutEq
    rw [hc, ih h.2]
    rfl
end Go.Proofs.YtbgjpglnikbflaaDoor
