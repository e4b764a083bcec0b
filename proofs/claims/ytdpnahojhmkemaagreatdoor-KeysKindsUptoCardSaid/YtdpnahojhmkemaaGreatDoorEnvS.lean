/-
  Commands and variables of a text, plain. No program in sight.
-/
import Derived.Test.YtdpnahojhmkemaaGreatDoorLinesS
import Derived.Test.YtdpnahojhmkemaaGreatDoorWordsL
import Derived.Lib.IndexMore
import Derived.Lib.CutLaws
namespace Go.Proofs.YtdpnahojhmkemaaGreatDoor
set_option linter.unusedVariables false
set_option linter.unusedSimpArgs false

/-- What Exec says: whether it begins with a dash, and its words. -/
def execS (s : Str) : Option (Bool × List Str) :=
  match split (Go.Lib.trimPrefix s [45]) with
  | .ok (x :: t) => if x = [] then none else some (Go.Lib.hasPrefix s [45], x :: t)
  | _ => none
def varP (c : UInt8) : Bool := ([isLetter, isDigit, fun c => ([95] : Str).contains c] : List (UInt8 → Bool)).any fun p => p c
/-- May a text be a variable's name? -/
def varB (s : Str) : Bool := (!s.isEmpty && decide (s.length ≤ 60) && s.all varP) && !(isDigit (s.headD 0))
def envL : List Str → Option (List (Str × Str))
  | [] => some []
  | w :: t => if (Go.Lib.cut w [61]).2.2 = true ∧ varB (Go.Lib.cut w [61]).1 = true then (envL t).map fun r => ((Go.Lib.cut w [61]).1, (Go.Lib.cut w [61]).2.1) :: r else none
/-- What Env says: none where a word is no variable and value; whether it is right. -/
def envS (s : Str) : List (Str × Str) × Bool :=
  match split s with
  | .error _ => ([], false)
  | .ok l => match envL l with
    | none => ([], false)
    | some ps => (ps, decide (0 < ps.length))
theorem envL_len : ∀ (l : List Str) ps, envL l = some ps → ps.length = l.length
  | [], ps, h => by simp [envL] at h; subst h; rfl
  | w :: t, ps, h => by
    unfold envL at h
    split at h
    · cases hr : envL t with
      | none => rw [hr] at h; simp at h
      | some r => rw [hr] at h; simp at h; subst h; simp [envL_len t r hr]
    · simp at h
theorem split_small (s : Str) (l : List Str) (h : split s = .ok l) : l.length ≤ 32 ∧ ∀ x ∈ l, x.length ≤ s.length := ⟨(split_back h).2, split_size h⟩
end Go.Proofs.YtdpnahojhmkemaaGreatDoor
