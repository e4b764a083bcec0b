/-
  Words parted by some bytes, several as one. No program in sight.
-/
import Derived.Test.YtdpnahojhmkemaaGreatDoorFldS
namespace Go.Proofs.YtdpnahojhmkemaaGreatDoor
set_option linter.unusedVariables false
set_option linter.unusedSimpArgs false

def fldB (p : UInt8 → Bool) : Str → Str → List Str
  | [], cur => if cur.isEmpty then [] else [cur]
  | c :: t, cur => if p c = true then (if cur.isEmpty then fldB p t [] else cur :: fldB p t []) else fldB p t (cur ++ [c])
theorem fldB_one (by_ : Str) (h : by_ = [32]) : ∀ (s cur : Str), fldB (fun c => by_.contains c) s cur = fldS s cur
  | [], cur => rfl
  | c :: t, cur => by
    have h1 := fldB_one by_ h t []
    have h2 := fldB_one by_ h t (cur ++ [c])
    unfold fldB fldS
    by_cases hc : c = 32
    · subst hc
      rw [if_pos (by simp [h]), if_pos rfl, h1]
    · rw [if_neg (by simp [h, hc]), if_neg hc, h2]
/-- What is put out at a parting. -/
def putB (cur : Str) : List Str := if cur.isEmpty then [] else [cur]
theorem fldB_yes (p : UInt8 → Bool) (c : UInt8) (t cur : Str) (h : p c = true) : fldB p (c :: t) cur = putB cur ++ fldB p t [] := by
  rw [fldB, if_pos h]
  unfold putB
  split <;> simp
theorem fldB_no (p : UInt8 → Bool) (c : UInt8) (t cur : Str) (h : p c = false) : fldB p (c :: t) cur = fldB p t (cur ++ [c]) := by
  rw [fldB, if_neg (by simp [h])]
theorem putB_len (cur : Str) : (putB cur).length ≤ 1 := by unfold putB; split <;> simp
end Go.Proofs.YtdpnahojhmkemaaGreatDoor
