/-
  Plain functions and laws: what the reference's Of, Make, Change compute. No program in sight.
-/
import Derived.Test.YtdpnahojhmkemaaGreatDoorNameS
namespace Go.Proofs.YtdpnahojhmkemaaGreatDoor
set_option linter.unusedVariables false

structure CutS where
  kind : Nat
  pre : Str
  inst : Str
  at_ : Bool
deriving DecidableEq
def cutZ : CutS := ⟨0, [], [], false⟩
/-- A name's pieces. -/
def ofS (s : Str) : CutS := if kindS s = 0 then cutZ else ⟨kindS s, (cutAt (cutPt s).1).1, (cutAt (cutPt s).1).2.1, (cutAt (cutPt s).1).2.2⟩
def makeS (c : CutS) (k : Nat) : Str := (if c.at_ then c.pre ++ 64 :: c.inst else c.pre) ++ 46 :: sufS k

theorem ofS_kind (s : Str) : (ofS s).kind = kindS s := by
  unfold ofS
  by_cases h : kindS s = 0
  · rw [if_pos h, h]; rfl
  · rw [if_neg h]
theorem cutAt_join : ∀ s : Str, (if (cutAt s).2.2 then (cutAt s).1 ++ 64 :: (cutAt s).2.1 else (cutAt s).1) = s
  | [] => rfl
  | c :: r => by
    have := cutAt_join r
    unfold cutAt
    by_cases h : (c == 64) = true
    · rw [if_pos h]; simp; exact (eq_of_beq h).symm
    · rw [if_neg h]
      simp only
      cases hq : (cutAt r).2.2 <;> simp [hq] at this ⊢ <;> exact this
theorem cutAt_none {s : Str} (h : (cutAt s).2.2 = false) : (cutAt s).1 = s ∧ (cutAt s).2.1 = [] := by
  have h1 := cutAt_join s
  rw [h] at h1
  refine ⟨by simpa using h1, ?_⟩
  clear h1
  induction s with
  | nil => rfl
  | cons c r ih =>
    unfold cutAt at h ⊢
    by_cases hc : (c == 64) = true
    · rw [if_pos hc] at h; cases h
    · rw [if_neg hc] at h ⊢; exact ih h
theorem kindOf_iff (t : Str) (k : Nat) (h1 : 1 ≤ k) (h4 : k ≤ 4) : kindOf t = k ↔ t = sufS k := by
  constructor
  · intro h
    unfold kindOf at h
    split at h
    · subst h; assumption
    split at h
    · subst h; assumption
    split at h
    · subst h; assumption
    split at h
    · subst h; assumption
    · omega
  · rintro rfl
    match k, h1, h4 with
    | 1, _, _ => decide
    | 2, _, _ => decide
    | 3, _, _ => decide
    | 4, _, _ => decide
theorem suf_nodot (k : Nat) : (sufS k).contains 46 = false := by
  unfold sufS; repeat' split <;> first | decide | skip
theorem suf_len (k : Nat) : (sufS k).length ≤ 7 := by
  unfold sufS; repeat' split <;> first | decide | skip
theorem cutPt_app (a : Str) (k : Nat) : cutPt (a ++ 46 :: sufS k) = (a, sufS k) := by
  unfold cutPt; rw [lastPt_app _ (suf_nodot k)]; rfl
theorem of_match {s : Str} {k : Nat} (h1 : 1 ≤ k) (h4 : k ≤ 4) (hn : (cutPt s).1 ≠ []) (hk : kindOf (cutPt s).2 = k) : s = (cutPt s).1 ++ 46 :: sufS k := by
  rw [kindOf_iff _ k h1 h4] at hk
  rw [← hk]
  unfold cutPt at *
  rcases lastPt_cases s with ⟨h, _⟩ | ⟨a, b, h, h2, _⟩
  · rw [h] at hn; exact absurd rfl hn
  · rw [h]; exact h2
theorem of_nomatch {s : Str} {k : Nat} (h1 : 1 ≤ k) (h4 : k ≤ 4) (h : ¬ ((cutPt s).1 ≠ [] ∧ kindOf (cutPt s).2 = k)) (hl : (sufS k).length + 1 < s.length) (n : Nat) (hn : n + ((sufS k).length + 1) = s.length) : s.drop n ≠ 46 :: sufS k := by
  intro e
  apply h
  have hs : s = s.take n ++ 46 :: sufS k := by rw [← e, List.take_append_drop]
  rw [hs, cutPt_app]
  refine ⟨?_, (kindOf_iff _ k h1 h4).2 rfl⟩
  intro e2
  have : (s.take n).length = 0 := by rw [show s.take n = [] from e2]; rfl
  rw [List.length_take] at this
  omega
/-- What the search over the kinds has found, from 1 up to k. -/
def kR (s : Str) (k : Nat) : Nat := if (cutPt s).1 ≠ [] ∧ kindOf (cutPt s).2 ≠ 0 ∧ kindOf (cutPt s).2 < k then kindOf (cutPt s).2 else 0
def rR (s : Str) (k : Nat) : Str := if (cutPt s).1 ≠ [] ∧ kindOf (cutPt s).2 ≠ 0 ∧ kindOf (cutPt s).2 < k then (cutPt s).1 else []
theorem kR_one (s : Str) : kR s 1 = 0 ∧ rR s 1 = [] := by
  unfold kR rR
  rw [if_neg (by omega), if_neg (by omega)]; exact ⟨rfl, rfl⟩
theorem kR_match {s : Str} {k : Nat} (h1 : 1 ≤ k) (hn : (cutPt s).1 ≠ []) (hk : kindOf (cutPt s).2 = k) : kR s (k + 1) = k ∧ rR s (k + 1) = (cutPt s).1 := by
  unfold kR rR
  rw [if_pos ⟨hn, by omega, by omega⟩, if_pos ⟨hn, by omega, by omega⟩]; exact ⟨hk, rfl⟩
theorem kR_no {s : Str} {k : Nat} (h : ¬ ((cutPt s).1 ≠ [] ∧ kindOf (cutPt s).2 = k)) : kR s (k + 1) = kR s k ∧ rR s (k + 1) = rR s k := by
  unfold kR rR
  have : ((cutPt s).1 ≠ [] ∧ kindOf (cutPt s).2 ≠ 0 ∧ kindOf (cutPt s).2 < k + 1) ↔ ((cutPt s).1 ≠ [] ∧ kindOf (cutPt s).2 ≠ 0 ∧ kindOf (cutPt s).2 < k) := by
    constructor
    · rintro ⟨a, b, c⟩
      refine ⟨a, b, ?_⟩
      have : kindOf (cutPt s).2 ≠ k := fun e => h ⟨a, e⟩
      omega
    · rintro ⟨a, b, c⟩; exact ⟨a, b, by omega⟩
  constructor <;> (split <;> split <;> first | rfl | (rename_i a b; exact absurd (this.1 a) b) | (rename_i a b; exact absurd (this.2 b) a))
/-- The end of the search. -/
theorem kR_end (s : Str) : (kR s 5 = 0 ∧ kindS s = 0) ∨ (kR s 5 ≠ 0 ∧ kR s 5 = kindOf (cutPt s).2 ∧ rR s 5 = (cutPt s).1) := by
  by_cases h : (cutPt s).1 ≠ [] ∧ kindOf (cutPt s).2 ≠ 0
  · have h5 : kindOf (cutPt s).2 < 5 := by have := kindOf_le (cutPt s).2; omega
    refine .inr ?_
    unfold kR rR
    rw [if_pos ⟨h.1, h.2, h5⟩, if_pos ⟨h.1, h.2, h5⟩]
    exact ⟨h.2, rfl, rfl⟩
  · refine .inl ⟨?_, ?_⟩
    · unfold kR; rw [if_neg (fun q => h ⟨q.1, q.2.1⟩)]
    · unfold kindS
      split
      · rename_i hc
        by_cases h0 : (cutPt s).1 = []
        · rw [h0] at hc; exact absurd rfl hc.2.1
        · by_cases h2 : kindOf (cutPt s).2 = 0
          · exact h2
          · exact absurd ⟨h0, h2⟩ h
      · rfl
theorem of_end {s : Str} (hl : s.length ≤ 60) (hk : kR s 5 ≠ 0) (he : kR s 5 = kindOf (cutPt s).2) (p i : Str) (f : Bool) (hp : cutAt (cutPt s).1 = (p, i, f)) :
    (p = [] ∨ nameB (p ++ i) = false → ofS s = cutZ) ∧ (p ≠ [] → nameB (p ++ i) = true → ofS s = ⟨kR s 5, p, i, f⟩) := by
  have hb : nameB (p ++ i) = (nameB p && nameB i) := by unfold nameB; rw [List.all_append]
  unfold ofS kindS
  rw [hp]
  simp only
  constructor
  · intro h
    rw [if_pos]
    rw [if_neg]
    rintro ⟨_, h1, h2, h3⟩
    rcases h with h | h
    · exact h1 h
    · rw [hb, h2, h3] at h; cases h
  · intro h1 h2
    rw [hb, Bool.and_eq_true] at h2
    have hc : (if s.length ≤ 60 ∧ p ≠ [] ∧ nameB p = true ∧ nameB i = true then kindOf (cutPt s).2 else 0) = kR s 5 := by
      rw [if_pos ⟨hl, h1, h2.1, h2.2⟩, he]
    rw [hc, if_neg hk]

/-- Where the first @ is looked for. -/
theorem cutAt_here (a b : Str) (h : a.contains 64 = false) : cutAt (a ++ 64 :: b) = (a, b, true) := by
  induction a with
  | nil => rfl
  | cons c r ih =>
    rw [List.contains_cons, Bool.or_eq_false_iff] at h
    have hc : (c == 64) = false := by rw [beq_eq_false_iff_ne] at h ⊢; exact fun e => h.1 e.symm
    rw [List.cons_append]
    unfold cutAt
    rw [if_neg (by rw [hc]; decide), ih h.2]
theorem cutAt_no (a : Str) (h : a.contains 64 = false) : cutAt a = (a, [], false) := by
  induction a with
  | nil => rfl
  | cons c r ih =>
    rw [List.contains_cons, Bool.or_eq_false_iff] at h
    have hc : (c == 64) = false := by rw [beq_eq_false_iff_ne] at h ⊢; exact fun e => h.1 e.symm
    unfold cutAt
    rw [if_neg (by rw [hc]; decide), ih h.2]
theorem change_make {s : Str} (h : kindS s ≠ 0) (k : Nat) : makeS (ofS s) k = (cutPt s).1 ++ 46 :: sufS k := by
  unfold makeS ofS
  rw [if_neg h]
  simp only
  rw [cutAt_join]
end Go.Proofs.YtdpnahojhmkemaaGreatDoor
