/-
  KeysNames, plain: names parted by blanks. No program in sight.
-/
import Derived.Test.YtdpnahojhmkemaaGreatDoorFldS
import Derived.Test.YtdpnahojhmkemaaGreatDoorKeys6
import Derived.Test.YtdpnahojhmkemaaGreatDoorRef1S
namespace Go.Proofs.YtdpnahojhmkemaaGreatDoor
set_option linter.unusedVariables false
set_option linter.unusedSimpArgs false

/-- A name that is no template, as the document says it. -/
def namedS (w : Str) : Bool := decide (kindS w ≠ 0) && !((ofS w).at_ && (ofS w).inst.isEmpty)
theorem named_unit (w : Str) : namedS w = unitB w := by
  unfold namedS unitB bareS partsS ofS
  by_cases h : kindS w = 0
  · simp [h]
  · simp [h]

/-- The text that the law makes of names, n blanks behind each; and whether each may be one. -/
def joinN (n : Nat) : List Str → Str
  | [] => []
  | w :: t => if w = [] then joinN n t else w ++ (List.replicate n 32 ++ joinN n t)
def goodN : List Str → Bool
  | [] => true
  | w :: t => if w = [] then goodN t else namedS w && goodN t

theorem fldS_blanks : ∀ (n : Nat) (u : Str), fldS (List.replicate n 32 ++ u) [] = fldS u []
  | 0, u => by simp
  | n + 1, u => by
    rw [List.replicate_succ, List.cons_append, fldS, if_pos rfl]
    simp [fldS_blanks n u]
theorem blanks_join (n : Nat) : ∀ l : List Str, (∀ w ∈ l, ∀ c ∈ w, c ≠ 32) → blanksS (joinN (n + 1) l) = l.filter fun w => !w.isEmpty
  | [], _ => by simp [joinN, blanksS, fldS]
  | w :: t, h => by
    have ih := blanks_join n t (fun x hx => h x (by simp [hx]))
    unfold joinN
    by_cases hw : w = []
    · subst hw
      rw [if_pos rfl, ih]
      simp
    · rw [if_neg hw]
      unfold blanksS at *
      rw [fldS_skip w _ [] (h w (by simp)), List.nil_append, List.replicate_succ, List.cons_append, fldS, if_pos rfl, fldS_blanks, ih]
      simp [hw]
theorem good_all : ∀ l : List Str, goodN l = (l.filter fun w => !w.isEmpty).all unitB
  | [] => rfl
  | w :: t => by
    unfold goodN
    by_cases hw : w = []
    · subst hw
      rw [if_pos rfl, good_all t]
      simp
    · rw [if_neg hw, good_all t, named_unit]
      simp [hw]
theorem join_nil (n : Nat) : ∀ l : List Str, joinN n l = [] → (l.filter fun w => !w.isEmpty) = []
  | [], _ => rfl
  | w :: t, h => by
    unfold joinN at h
    by_cases hw : w = []
    · subst hw
      rw [if_pos rfl] at h
      simpa using join_nil n t h
    · rw [if_neg hw] at h
      simp [hw] at h
theorem joinN_snoc (n : Nat) (l : List Str) (w : Str) : joinN n (l ++ [w]) = if w = [] then joinN n l else joinN n l ++ (w ++ List.replicate n 32) := by
  induction l with
  | nil => by_cases hw : w = [] <;> simp [joinN, hw]
  | cons a t ih =>
    rw [List.cons_append]
    unfold joinN
    rw [ih]
    by_cases ha : a = [] <;> by_cases hw : w = [] <;> simp [ha, hw]
theorem goodN_snoc (l : List Str) (w : Str) : goodN (l ++ [w]) = if w = [] then goodN l else (goodN l && namedS w) := by
  induction l with
  | nil => by_cases hw : w = [] <;> simp [goodN, hw]
  | cons a t ih =>
    rw [List.cons_append]
    unfold goodN
    rw [ih]
    by_cases ha : a = [] <;> by_cases hw : w = [] <;> simp [ha, hw, Bool.and_assoc]
theorem joinN_len (n : Nat) (l : List Str) : (joinN n l).length ≤ l.flatten.length + l.length * n := by
  induction l with
  | nil => simp [joinN]
  | cons a t ih =>
    unfold joinN
    rw [List.length_cons, Nat.add_mul, Nat.one_mul]
    by_cases ha : a = []
    · subst ha; simp at *; omega
    · rw [if_neg ha]; simp at *; omega
end Go.Proofs.YtdpnahojhmkemaaGreatDoor
