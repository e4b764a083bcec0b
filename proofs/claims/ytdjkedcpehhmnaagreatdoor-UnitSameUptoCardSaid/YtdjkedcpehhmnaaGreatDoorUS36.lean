import Derived.Test.YtdjkedcpehhmnaaGreatDoorUS31
namespace Go.Proofs.YtdjkedcpehhmnaaGreatDoor
set_option linter.unusedVariables false
set_option linter.unusedSimpArgs false
def AlikeU (u v : UV) : Prop := ∀ j, j ≠ 0 → u j = v j
theorem AlikeU.upd {u v : UV} (h : AlikeU u v) (i : Nat) (c : UC) : AlikeU (u.upd i c) (v.upd i c) := by
 intro j hj
 unfold UV.upd
 by_cases e : j = i
 ·rw [if_pos e, if_pos e]
 ·rw [if_neg e, if_neg e]; exact h j hj
theorem AlikeU.whole {u v : UV} (h : AlikeU u v) (kind : Int) : wholeU kind u = wholeU kind v := by
 unfold wholeU
 rw [h 7 (by decide), h 9 (by decide), h 21 (by decide), h 25 (by decide), h 26 (by decide), h 27 (by decide), h 28 (by decide)]
def overF (i : Nat) (c : UC) : Bool := if i = 4 then decide (64 < c.len) else listIx.contains i && decide (16 < c.len)
def okU (u : UV) : Prop := ∀ j, overF j (u j) = false
theorem longU_iff (u : UV) : longU u = false ↔ okU u := by
 unfold longU okU
 rw [Bool.or_eq_false_iff]
 constructor
 ·rintro ⟨h4, hl⟩ j
  unfold overF
  split
  ·rename_i e; rw [e]; exact h4
  ·cases hc : listIx.contains j with
   | false => rfl
   | true =>
    have := List.any_eq_false.1 hl j (by simpa using hc)
    simpa using this
 ·intro h
  refine ⟨by have := h 4; unfold overF at this; rw [if_pos rfl] at this; exact this, ?_⟩
  rw [List.any_eq_false]
  intro j hj
  have := h j
  unfold overF at this
  have hne : j ≠ 4 := by rintro rfl; revert hj; decide
  rw [if_neg hne, show listIx.contains j = true from by simpa using hj] at this
  simpa using this
theorem lineU_err (name : Str) (kind : Int) (u : UV) (x : Ln) (e : Int) (h : lineU name kind u x = .error e) : e ≠ 0 := by
 unfold lineU at h
 cases hs : specS x.val name with
 | error c =>
  rw [hs] at h
  injection h with h
  subst h
  unfold specS at hs
  split at hs
  ·injection hs with hs; subst hs; decide
  ·split at hs
   ·injection hs with hs; subst hs; decide
   ·cases hs
 | ok v =>
  rw [hs] at h
  simp only at h
  by_cases h0 : lnS kind { x with val := v } ≠ 0
  ·rw [if_pos h0] at h
   injection h with h
   subst h; exact h0
  ·rw [if_neg h0] at h
   cases hk : findKey x.sec x.key with
   | none => rw [hk] at h; injection h with h; subst h; decide
   | some k =>
    rw [hk] at h
    simp only at h
    split at h
    ·injection h with h; subst h; decide
    ·split at h
     ·injection h with h; subst h; decide
     ·cases h
end Go.Proofs.YtdjkedcpehhmnaaGreatDoor
