/-
  Plain laws of package lines' functions: remarks and empty lines between. No program in sight.
-/
import Derived.Test.YtbgjpglnikbflaaDoorRef7S
namespace Go.Proofs.YtbgjpglnikbflaaDoor
set_option linter.unusedVariables false

/-- What is put in behind a row: a row of blanks, a remark, an empty remark. -/
def insS (rem : Str) : Str := [32, 9, 10, 32, 32, 35] ++ rem ++ [10, 59, 10]
/-- A text's rows, with some more behind those that are asked for; row: what was read of one; n: how many were read. -/
def mixS (cond : Nat → Bool) (rem : Str) : Str → Str → Nat → Str → Str
  | [], _, _, txt => txt
  | c :: r, row, n, txt => if c == 10 then mixS cond rem r [] (n + 1) (txt ++ (row ++ [c]) ++ (if cond (n + 1) then insS rem else [])) else mixS cond rem r (row ++ [c]) n txt
theorem mixS_app (cond : Nat → Bool) (rem : Str) : ∀ (rest row : Str) (n : Nat) (txt : Str), mixS cond rem rest row n txt = txt ++ mixS cond rem rest row n []
  | [], _, _, txt => by simp [mixS]
  | c :: r, row, n, txt => by
    unfold mixS
    split
    · rw [mixS_app cond rem r [] (n + 1) (txt ++ (row ++ [c]) ++ _), mixS_app cond rem r [] (n + 1) ([] ++ (row ++ [c]) ++ _)]
      simp [List.append_assoc]
    · exact mixS_app cond rem r _ n txt
theorem rem_remark (rem : Str) : isRemark (32 :: 32 :: 35 :: rem) = true := by
  have h : trimS (32 :: 32 :: 35 :: rem) = trimE (35 :: rem) := by
    rw [← trimE_trimS]
    rfl
  have h2 : ∃ t, trimS (32 :: 32 :: 35 :: rem) = 35 :: t := by
    rw [h, trimE_cons]
    split
    · exact ⟨[], rfl⟩
    · exact ⟨_, rfl⟩
  obtain ⟨t, ht⟩ := h2
  unfold isRemark
  rw [ht]
  rfl
theorem no10_app {a b : Str} (ha : a.contains 10 = false) (hb : b.contains 10 = false) : (a ++ b).contains 10 = false := by
  rw [← Bool.not_eq_true, List.contains_iff_mem] at *
  intro hm
  rcases List.mem_append.1 hm with hm | hm
  · exact ha hm
  · exact hb hm
theorem rows_ins {rem : Str} (h : rem.contains 10 = false) (b : Str) : rowsS (insS rem ++ b) = [32, 9] :: (32 :: 32 :: 35 :: rem) :: [59] :: rowsS b := by
  have e : insS rem ++ b = [32, 9] ++ 10 :: ((32 :: 32 :: 35 :: rem) ++ 10 :: ([59] ++ 10 :: b)) := by simp [insS]
  rw [e, rowsS_app (by decide), rowsS_app (by
    have : (32 :: 32 :: 35 :: rem : Str) = [32, 32, 35] ++ rem := rfl
    rw [this]; exact no10_app (by decide) h), rowsS_app (by decide)]

theorem mix_more {cond : Nat → Bool} {rem : Str} (hr : rem.contains 10 = false) : ∀ (rest row : Str) (n : Nat), row.contains 10 = false → (row ++ rest = [] ∨ (row ++ rest).getLast? = some 10) → (∀ x ∈ rowsS (row ++ rest), goesOn x = false) → More (rowsS (row ++ rest)) (rowsS (mixS cond rem rest row n []))
  | [], row, n, h1, h2, h3 => by
    rw [List.append_nil] at *
    have : row = [] := by
      rcases h2 with h | h
      · exact h
      · have := List.mem_of_getLast? h
        rw [← Bool.not_eq_true, List.contains_iff_mem] at h1
        exact absurd this h1
    subst this
    exact .done [[]] (by simp)
  | c :: r, row, n, h1, h2, h3 => by
    cases hc : (c == 10) with
    | true =>
      have := eq_of_beq hc
      subst this
      have h2' : ([] : Str) ++ r = [] ∨ (([] : Str) ++ r).getLast? = some 10 := by
        cases r with
        | nil => exact .inl rfl
        | cons a t =>
          rcases h2 with h | h
          · simp at h
          · right
            rw [List.getLast?_append, List.getLast?_cons_cons] at h
            simp only [List.nil_append]
            cases hl : (a :: t).getLast? with
            | none => simp at hl
            | some z => rw [hl] at h; exact h
      rw [rowsS_app h1] at h3 ⊢
      have ih := mix_more (cond := cond) hr r [] (n + 1) rfl h2' (fun x hx => h3 x (by rw [List.nil_append] at hx; simp [hx]))
      unfold mixS
      rw [if_pos hc, mixS_app, List.nil_append, List.append_assoc, List.append_assoc, List.singleton_append, rowsS_app h1]
      refine .row row (h3 row (by simp)) ?_
      split
      · rw [rows_ins hr]
        refine .skip _ (by decide) (.skip _ ?_ (.skip _ (by decide) ih))
        rw [rem_remark]; rfl
      · exact ih
    | false =>
      unfold mixS
      rw [if_neg (by simp [hc])]
      have e : row ++ c :: r = (row ++ [c]) ++ r := by simp
      rw [e] at h2 h3 ⊢
      refine mix_more hr r (row ++ [c]) n ?_ h2 h3
      refine no10_app h1 ?_
      rw [← Bool.not_eq_true, List.contains_iff_mem]
      intro hm; simp at hm; rw [← hm] at hc; simp at hc

theorem textR_goes : ∀ (l : List Ln) (p : Option Str), (∀ x ∈ l, MayL x) → ∀ y ∈ textR p l, goesOn y = false := by
  intro l
  induction l with
  | nil => intro p _ y hy; cases p <;> simp [textR] at hy
  | cons x r ih =>
    intro p h y hy
    have hx := h x (by simp)
    have hr := ih (some x.sec) (fun z hz => h z (by simp [hz]))
    cases p with
    | none =>
      simp only [textR, List.mem_cons] at hy
      rcases hy with rfl | rfl | hy
      · exact headR_stay _
      · exact pairR_stay hx
      · exact hr y hy
    | some s =>
      simp only [textR] at hy
      split at hy
      · simp only [List.nil_append, List.mem_cons] at hy
        rcases hy with rfl | hy
        · exact pairR_stay hx
        · exact hr y hy
      · simp only [List.cons_append, List.nil_append, List.mem_cons] at hy
        rcases hy with rfl | rfl | rfl | hy
        · rfl
        · exact headR_stay _
        · exact pairR_stay hx
        · exact hr y hy
theorem text_end : ∀ (l : List Ln) (p : Option Str), textS p l = [] ∨ (textS p l).getLast? = some 10
  | [], p => .inl (by cases p <;> rfl)
  | x :: r, p => by
    right
    have h0 : (pairS x).getLast? = some 10 := by unfold pairS; rw [List.getLast?_append]; rfl
    have key : ∀ a : Str, (a ++ pairS x ++ textS (some x.sec) r).getLast? = some 10 := by
      intro a
      rcases text_end r (some x.sec) with h | h
      · rw [h, List.append_nil, List.getLast?_append, h0]; rfl
      · rw [List.getLast?_append, h]; rfl
    cases p with
    | none => exact key _
    | some s => exact key _

/-- Remarks and empty rows between change no more than the numbers. -/
theorem parse_mix {l : List Ln} (h : mayS l = true) (cond : Nat → Bool) {rem : Str} (hr : rem.contains 10 = false) (hlen : (mixS cond rem (writeS l) [] 0 []).length ≤ 20000) :
    ∃ m, parseS (mixS cond rem (writeS l) [] 0 []) = .ok m ∧ sameLns l m := by
  obtain ⟨h1, h2⟩ := mayS_parts h
  have hp := parse_write h
  unfold parseS at hp
  rw [if_pos h2, parseR_eq] at hp
  have hrows := rows_text l none [] h1
  rw [List.append_nil] at hrows
  have hg : ∀ x ∈ rowsS (([] : Str) ++ writeS l), goesOn x = false := by
    intro x hx
    rw [List.nil_append] at hx
    unfold writeS at hx
    rw [hrows] at hx
    rcases List.mem_append.1 hx with hx | hx
    · exact textR_goes l none h1 x hx
    · simp [rowsS] at hx; subst hx; rfl
  have hm := mix_more (cond := cond) hr (writeS l) [] 0 rfl (text_end l none) hg
  rw [List.nil_append] at hm
  obtain ⟨m, hm1, hm2⟩ := read_more hm 0 0 [] [] [] _ .nil hp
  refine ⟨m, ?_, (num_same l none 0).trans hm2⟩
  unfold parseS
  rw [if_pos hlen, parseR_eq]
  exact hm1
end Go.Proofs.YtbgjpglnikbflaaDoor
