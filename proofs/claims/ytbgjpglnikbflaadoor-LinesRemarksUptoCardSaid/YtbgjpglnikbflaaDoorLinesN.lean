/-
  Plain laws of package lines' functions: Back, Wrong, Remarks, Prefix. No program in sight.
-/
import Derived.Test.YtbgjpglnikbflaaDoorLinesM
namespace Go.Proofs.YtbgjpglnikbflaaDoor
set_option linter.unusedVariables false

/-! Lines that were read may be written. -/
theorem says_pair {sec s k v : Str} (h : saysS sec s = .pair k v) : sec ≠ [] ∧ keyB k = true ∧ goodS v = true ∧ trimS v = v ∧ k.length + 1 + v.length ≤ s.length ∧ s.length ≤ 400 := by
  unfold saysS at h
  split at h
  · rename_i hg
    split at h
    · rename_i hl
      have ht := trimS_infix s
      split at h
      · cases h
      · rename_i c t hct
        split at h
        · split at h <;> cases h
        · split at h
          · cases h
          · rename_i a b hc
            split at h
            · rename_i hk
              split at h
              · cases h
              · rename_i hs
                injection h with h1 h2
                subst h1; subst h2
                have he := cutEq_len hc
                rw [hct] at ht
                have hb : b <:+: s := by
                  refine List.IsInfix.trans ?_ ht
                  rw [he]
                  exact ⟨a ++ [61], [], by simp⟩
                refine ⟨by simpa using hs, hk, goodS_infix ((trimS_infix b).trans hb) hg, trimS_idem b, ?_, hl⟩
                have h1 := trimS_len a
                have h2 := trimS_len b
                have h3 := ht.length_le
                rw [he] at h3
                simp at h3
                omega
            · cases h
    · cases h
  · cases h
theorem says_sect {sec s name : Str} (h : saysS sec s = .sect name) : sectB name = true ∧ name.length + 2 ≤ s.length := by
  unfold saysS at h
  split at h
  · split at h
    · have ht := trimS_len s
      split at h
      · cases h
      · rename_i c t hct
        split at h
        · split at h
          · rename_i hc
            injection h with h1
            subst h1
            simp only [Bool.and_eq_true] at hc
            refine ⟨hc.2, ?_⟩
            have h0 := (sectB_parts hc.2).1
            rw [hct] at ht
            simp at ht
            have : t ≠ [] := by intro e; subst e; simp at h0
            have := List.length_pos_iff.2 this
            simp; omega
          · cases h
        · split at h
          · cases h
          · split at h
            · split at h <;> cases h
            · cases h
    · cases h
  · cases h

theorem textS_snoc : ∀ (l : List Ln) (p : Option Str) (x : Ln), ∃ q, textS p (l ++ [x]) = textS p l ++ textS q [x] ∧ q = (match l.getLast? with | some y => some y.sec | none => p)
  | [], p, x => ⟨p, by cases p <;> simp [textS], rfl⟩
  | y :: r, none, x => by
    obtain ⟨q, h1, h2⟩ := textS_snoc r (some y.sec) x
    refine ⟨q, by simp only [List.cons_append, textS, h1, List.append_assoc], ?_⟩
    rw [h2]
    cases r with
    | nil => rfl
    | cons a r => rw [List.getLast?_cons_cons]; cases h : (a :: r).getLast? with
      | none => simp at h
      | some z => rfl
  | y :: r, some s, x => by
    obtain ⟨q, h1, h2⟩ := textS_snoc r (some y.sec) x
    refine ⟨q, by simp only [List.cons_append, textS, h1, List.append_assoc], ?_⟩
    rw [h2]
    cases r with
    | nil => rfl
    | cons a r => rw [List.getLast?_cons_cons]; cases h : (a :: r).getLast? with
      | none => simp at h
      | some z => rfl

/-- What is owed of the section's row when the next line is written. -/
def pend (out : List Ln) (sec : Str) : Nat := match out.getLast? with
  | some y => if y.sec = sec then 0 else sec.length + 4
  | none => if sec = [] then 0 else sec.length + 3
theorem write_snoc (out : List Ln) (x : Ln) (hs : x.sec ≠ []) : (writeS (out ++ [x])).length ≤ (writeS out).length + pend out x.sec + (x.key.length + x.val.length + 2) := by
  obtain ⟨q, h1, h2⟩ := textS_snoc out none x
  unfold writeS
  rw [h1, List.length_append]
  unfold pend
  cases hl : out.getLast? with
  | none =>
    rw [hl] at h2
    subst h2
    simp [textS, headS, pairS, hs]
    omega
  | some y =>
    rw [hl] at h2
    subst h2
    simp only [textS, headS, pairS]
    by_cases e : x.sec = y.sec
    · simp [e]; omega
    · have e' : ¬ y.sec = x.sec := fun h => e h.symm
      simp [e, e']; omega
theorem pend_self (out : List Ln) (x : Ln) : pend (out ++ [x]) x.sec = 0 := by simp [pend]
theorem pend_le (out : List Ln) (sec : Str) : pend out sec ≤ sec.length + 4 := by
  unfold pend
  split <;> split <;> omega

theorem read_may : ∀ (ws : List (Str × Nat)) (sec : Str) (out l : List Ln) (S : Nat), readS ws sec out = .ok l → (∀ y ∈ l, goesOn y.val = false) → (sec = [] ∨ sectB sec = true) →
    (∀ x ∈ out, goesOn x.val = false → MayL x) → (writeS out).length + pend out sec ≤ 2 * S → (∀ x ∈ l, MayL x) ∧ (writeS l).length ≤ 2 * (S + bulkW ws)
  | [], sec, out, l, S, h, hg, hs, ho, hw => by
    simp only [readS] at h
    injection h with h
    subst h
    exact ⟨fun x hx => ho x hx (hg x hx), by simp [bulkW]; omega⟩
  | (s, n) :: r, sec, out, l, S, h, hg, hs, ho, hw => by
    simp only [readS] at h
    simp only [bulkW]
    split at h
    · cases h
    · have := read_may r sec out l (S + (s.length + 1)) h hg hs ho (by omega)
      exact ⟨this.1, by omega⟩
    · rename_i name hsy
      obtain ⟨h1, h2⟩ := says_sect hsy
      have hp := pend_le out name
      have := read_may r name out l (S + (s.length + 1)) h hg (.inr h1) ho (by omega)
      exact ⟨this.1, by omega⟩
    · rename_i k v hsy
      obtain ⟨h1, h2, h3, h4, h5, h6⟩ := says_pair hsy
      have hw' := write_snoc out ⟨sec, k, v, (n : Int)⟩ h1
      have hp := pend_self out ⟨sec, k, v, (n : Int)⟩
      simp only at hw' hp
      have := read_may r sec (out ++ [⟨sec, k, v, (n : Int)⟩]) l (S + (s.length + 1)) h hg hs (by
        intro x hx hgx
        rcases List.mem_append.1 hx with hx | hx
        · exact ho x hx hgx
        · simp at hx
          subst hx
          exact ⟨hs.resolve_left h1, h2, h3, h4, hgx, by simp; omega⟩) (by omega)
      exact ⟨this.1, by omega⟩
theorem parse_may {t : Str} {l : List Ln} (h : parseS t = .ok l) (hg : ∀ y ∈ l, goesOn y.val = false) (ht : t.length ≤ 9000) : mayS l = true := by
  unfold parseS at h
  rw [if_pos (by omega)] at h
  have h1 := read_may _ [] [] l 0 h hg (.inl rfl) (by simp) (by simp [writeS, textS, pend])
  have h2 := wholesS_bulk ((rowsS t).length + 1) (rowsS t) 0
  have h3 := rowsS_bulk t
  simp only [mayS, Bool.and_eq_true, decide_eq_true_eq, List.all_eq_true]
  exact ⟨fun x hx => (mayLn_iff x).2 (h1.1 x hx), by omega⟩

theorem says_err {sec s : Str} {c : Nat} (h : saysS sec s = .err c) : c = 1 ∨ c = 2 ∨ c = 9 ∨ c = 10 := by
  unfold saysS at h
  split at h
  · split at h
    · split at h
      · cases h
      · split at h
        · split at h
          · cases h
          · injection h with h; omega
        · split at h
          · injection h with h; omega
          · split at h
            · split at h
              · injection h with h; omega
              · cases h
            · injection h with h; omega
    · injection h with h; omega
  · injection h with h; omega
theorem read_err : ∀ {ws : List (Str × Nat)} {sec : Str} {out : List Ln} {c n : Nat}, readS ws sec out = .error (c, n) → c = 1 ∨ c = 2 ∨ c = 9 ∨ c = 10
  | [], _, _, _, _, h => by cases h
  | (s, n) :: r, sec, out, c, m, h => by
    simp only [readS] at h
    split at h
    · rename_i hsy
      injection h with h
      injection h with h1 h2
      subst h1
      exact says_err hsy
    · exact read_err h
    · exact read_err h
    · exact read_err h
theorem parse_err {t : Str} {c n : Nat} (h : parseS t = .error (c, n)) : c = 1 ∨ c = 2 ∨ c = 9 ∨ c = 10 := by
  unfold parseS at h
  split at h
  · exact read_err h
  · injection h with h
    injection h with h1 h2
    omega

/-! A line that may not be, behind lines that may. -/
theorem read_bad {bad : Str} (h1 : (isRemark bad || isVoid bad) = false) (h2 : goesOn bad = false) {c : Nat} (hc : ∀ sec, saysS sec bad = .err c) (R : List Str) (n : Nat) (sec : Str) (out : List Ln) :
    readS (wholes (bad :: R) n) sec out = .error (c, n + 1) := by
  rw [wholes_plain h1 h2]
  simp only [readS, hc sec]
theorem parse_bad {l : List Ln} (h : mayS l = true) {bad : Str} (more : Str) (h1 : (isRemark bad || isVoid bad) = false) (h2 : goesOn bad = false) {c : Nat} (hc : ∀ sec, saysS sec bad = .err c) (h10 : bad.contains 10 = false)
    (hlen : (writeS l ++ bad ++ 10 :: more).length ≤ 20000) : parseS (writeS l ++ bad ++ 10 :: more) = .error (c, (textR none l).length + 1) := by
  obtain ⟨hm, _⟩ := mayS_parts h
  unfold parseS
  rw [if_pos hlen, parseR_eq, List.append_assoc]
  unfold writeS
  rw [rows_text l none _ hm, rowsS_app h10, read_text l none 0 [] [] _ hm (by simp), read_bad h1 h2 hc]
  simp
/-- How many bytes 10 stand in a text. -/
def nls (s : Str) : Nat := s.count 10
theorem nls_text : ∀ (l : List Ln) (p : Option Str), (∀ x ∈ l, MayL x) → nls (textS p l) = (textR p l).length := by
  have key : ∀ (t : Str), nls t + 1 = (rowsS t).length := by
    intro t
    induction t with
    | nil => rfl
    | cons c r ih =>
      conv => rhs; unfold rowsS
      unfold nls at *
      rw [List.count_cons]
      split
      · simp; omega
      · rename_i hc
        have h0 := rowsS_ne r
        split
        · rename_i h; exact absurd h h0
        · rename_i h; rw [h] at ih; simp at ih ⊢; omega
  intro l p h
  have h1 := key (textS p l)
  have h2 := rows_text l p [] h
  rw [List.append_nil] at h2
  rw [h2] at h1
  simp [rowsS] at h1
  omega

/-! The text of the first of some lines. -/
theorem text_take : ∀ (l : List Ln) (p : Option Str) (k : Nat), textS p (l.take k) <+: textS p l
  | [], p, k => by simp
  | x :: r, p, 0 => by cases p <;> simp [textS]
  | x :: r, none, k + 1 => by
    simp only [List.take_succ_cons, textS]
    exact (List.prefix_append_right_inj _).2 (text_take r _ k)
  | x :: r, some s, k + 1 => by
    simp only [List.take_succ_cons, textS]
    exact (List.prefix_append_right_inj _).2 (text_take r _ k)
theorem may_take {l : List Ln} (h : mayS l = true) (k : Nat) : mayS (l.take k) = true := by
  simp only [mayS, Bool.and_eq_true, decide_eq_true_eq, List.all_eq_true] at h ⊢
  exact ⟨fun x hx => h.1 x (List.mem_of_mem_take hx), Nat.le_trans (text_take l none k).length_le h.2⟩

/-! Remarks and empty lines between. -/
/-- Rows with some more between, that say nothing. -/
inductive More : List Str → List Str → Prop where
  | done (R : List Str) (h : ∀ x ∈ R, x = []) : More R R
  | row (x : Str) (h : goesOn x = false) {R R' : List Str} (t : More R R') : More (x :: R) (x :: R')
  | skip (x : Str) (h : (isRemark x || isVoid x) = true) {R R' : List Str} (t : More R R') : More R (x :: R')
theorem sameLns.snoc {l m : List Ln} {a b : Ln} (h : sameLns l m) (hab : sameLn a b) : sameLns (l ++ [a]) (m ++ [b]) := by
  induction h with
  | nil => exact .cons hab .nil
  | cons h t ih => exact .cons h ih
theorem wholes_voids : ∀ (R : List Str) (n : Nat), (∀ x ∈ R, x = []) → wholes R n = []
  | [], _, _ => rfl
  | x :: r, n, h => by
    have := h x (by simp)
    subst this
    rw [wholes_skip (by decide)]
    exact wholes_voids r _ (fun x hx => h x (by simp [hx]))
theorem read_more {R R' : List Str} (h : More R R') : ∀ (n n' : Nat) (sec : Str) (out out' l : List Ln), sameLns out out' → readS (wholes R n) sec out = .ok l → ∃ l', readS (wholes R' n') sec out' = .ok l' ∧ sameLns l l' := by
  induction h with
  | done R h =>
    intro n n' sec out out' l ho hr
    rw [wholes_voids R n h] at hr
    rw [wholes_voids R n' h]
    injection hr with hr
    subst hr
    exact ⟨out', rfl, ho⟩
  | row x h t ih =>
    intro n n' sec out out' l ho hr
    cases hx : (isRemark x || isVoid x) with
    | true =>
      rw [wholes_skip hx] at hr ⊢
      exact ih _ _ sec out out' l ho hr
    | false =>
      rw [wholes_plain hx h] at hr ⊢
      simp only [readS] at hr ⊢
      cases hs : saysS sec x with
      | err c => rw [hs] at hr; cases hr
      | nothing => rw [hs] at hr; exact ih _ _ sec out out' l ho hr
      | sect name => rw [hs] at hr; exact ih _ _ name out out' l ho hr
      | pair k v => rw [hs] at hr; exact ih _ (n' + 1) sec (out ++ [⟨sec, k, v, ((n + 1 : Nat) : Int)⟩]) (out' ++ [⟨sec, k, v, ((n' + 1 : Nat) : Int)⟩]) l (ho.snoc ⟨rfl, rfl, rfl⟩) hr
  | skip x h t ih =>
    intro n n' sec out out' l ho hr
    rw [wholes_skip h]
    exact ih _ _ sec out out' l ho hr
theorem sameLns.trans {l m k : List Ln} (h : sameLns l m) (h' : sameLns m k) : sameLns l k := by
  induction h generalizing k with
  | nil => cases h'; exact .nil
  | cons h t ih =>
    cases h' with
    | cons h2 t2 => exact .cons ⟨h.1.trans h2.1, h.2.1.trans h2.2.1, h.2.2.trans h2.2.2⟩ (ih t2)
end Go.Proofs.YtbgjpglnikbflaaDoor
