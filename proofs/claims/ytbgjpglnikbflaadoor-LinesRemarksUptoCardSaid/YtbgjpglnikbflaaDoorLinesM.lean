/-
  Plain laws of package lines' functions: what is written is read as it was. No program in sight.
-/
import Derived.Test.YtbgjpglnikbflaaDoorLinesL
namespace Go.Proofs.YtbgjpglnikbflaaDoor
set_option linter.unusedVariables false

theorem u8_all {p : UInt8 → Bool} (h : ∀ n : Fin 256, p (UInt8.ofNat n) = true) (c : UInt8) : p c = true := by
  have := h ⟨c.toNat, UInt8.toNat_lt c⟩
  simpa using this
theorem letter_facts (c : UInt8) (h : isLetter c = true) : isBlank c = false ∧ isBad c = false ∧ c ≠ 10 ∧ c ≠ 61 ∧ c ≠ 92 ∧ c ≠ 91 ∧ c ≠ 35 ∧ c ≠ 59 ∧ c ≠ 93 := by
  have := u8_all (p := fun c => !isLetter c || decide (isBlank c = false ∧ isBad c = false ∧ c ≠ 10 ∧ c ≠ 61 ∧ c ≠ 92 ∧ c ≠ 91 ∧ c ≠ 35 ∧ c ≠ 59 ∧ c ≠ 93)) (by decide +kernel) c
  simp only [h, Bool.not_true, Bool.false_or] at this
  exact of_decide_eq_true this
theorem keyC_facts (c : UInt8) (h : (isLetter c || isDigit c) = true) : isBlank c = false ∧ isBad c = false ∧ c ≠ 10 ∧ c ≠ 61 ∧ c ≠ 92 ∧ c ≠ 91 ∧ c ≠ 35 ∧ c ≠ 59 ∧ c ≠ 93 := by
  have := u8_all (p := fun c => !(isLetter c || isDigit c) || decide (isBlank c = false ∧ isBad c = false ∧ c ≠ 10 ∧ c ≠ 61 ∧ c ≠ 92 ∧ c ≠ 91 ∧ c ≠ 35 ∧ c ≠ 59 ∧ c ≠ 93)) (by decide +kernel) c
  simp only [h, Bool.not_true, Bool.false_or] at this
  exact of_decide_eq_true this
theorem bad_10 : isBad 10 = true := by decide
theorem good_no10 {v : Str} (h : goodS v = true) : v.contains 10 = false := by
  rw [← Bool.not_eq_true, List.contains_iff_mem]
  intro hm
  have := List.all_eq_true.1 h 10 hm
  simp [bad_10] at this

theorem sectB_parts {s : Str} (h : sectB s = true) : s ≠ [] ∧ s.length ≤ 20 ∧ ∀ c ∈ s, isLetter c = true := by
  simp only [sectB, Bool.and_eq_true, decide_eq_true_eq, List.all_eq_true] at h
  exact ⟨by intro e; subst e; simp at h, h.1.2, h.2⟩
theorem keyB_parts {s : Str} (h : keyB s = true) : s ≠ [] ∧ s.length ≤ 40 ∧ ∀ c ∈ s, (isLetter c || isDigit c) = true := by
  simp only [keyB, Bool.and_eq_true, decide_eq_true_eq, List.all_eq_true] at h
  exact ⟨by intro e; subst e; simp at h, h.1.2, h.2⟩
structure MayL (l : Ln) : Prop where
  sec : sectB l.sec = true
  key : keyB l.key = true
  good : goodS l.val = true
  trim : trimS l.val = l.val
  back : goesOn l.val = false
  len : l.key.length + 1 + l.val.length ≤ 400
theorem mayLn_iff (l : Ln) : mayLn l = true ↔ MayL l := by
  simp only [mayLn, Bool.and_eq_true, decide_eq_true_eq, beq_iff_eq, Bool.not_eq_true']
  exact ⟨fun ⟨⟨⟨⟨⟨a, b⟩, c⟩, d⟩, e⟩, f⟩ => ⟨a, b, c, d, e, f⟩, fun h => ⟨⟨⟨⟨⟨h.sec, h.key⟩, h.good⟩, h.trim⟩, h.back⟩, h.len⟩⟩

/-- A section's row, a key's row. -/
def headR (sec : Str) : Str := 91 :: sec ++ [93]
def pairR (l : Ln) : Str := l.key ++ 61 :: l.val
theorem headS_eq (sec r : Str) : headS sec ++ r = headR sec ++ 10 :: r := by simp [headS, headR]
theorem pairS_eq (l : Ln) (r : Str) : pairS l ++ r = pairR l ++ 10 :: r := by simp [pairS, pairR]

theorem headR_no10 {sec : Str} (h : sectB sec = true) : (headR sec).contains 10 = false := by
  obtain ⟨h0, h1, h2⟩ := sectB_parts h
  rw [← Bool.not_eq_true, List.contains_iff_mem]
  simp only [headR, List.cons_append, List.mem_cons, List.mem_append, List.mem_nil_iff, or_false]
  rintro (e | e | e)
  · cases e
  · exact (letter_facts _ (h2 _ e)).2.2.1 rfl
  · cases e
theorem pairR_no10 {l : Ln} (h : MayL l) : (pairR l).contains 10 = false := by
  obtain ⟨h0, h1, h2⟩ := keyB_parts h.key
  rw [← Bool.not_eq_true, List.contains_iff_mem]
  simp only [pairR, List.mem_cons, List.mem_append]
  rintro (e | e | e)
  · exact (keyC_facts _ (h2 _ e)).2.2.1 rfl
  · cases e
  · have := good_no10 h.good
    rw [← Bool.not_eq_true, List.contains_iff_mem] at this
    exact this e
theorem headR_last (sec : Str) : (headR sec).getLast? = some 93 := by
  show (((91 : UInt8) :: sec) ++ [93]).getLast? = _
  rw [List.getLast?_append]; rfl
theorem headR_stay (sec : Str) : goesOn (headR sec) = false := by rw [goesOn, headR_last]; rfl
theorem pairR_stay {l : Ln} (h : MayL l) : goesOn (pairR l) = false := by
  have hb := h.back
  unfold goesOn pairR at *
  rw [List.getLast?_append, List.getLast?_cons]
  cases hv : l.val.getLast? with
  | none => simp
  | some c => rw [hv] at hb; simpa using hb
theorem trimS_headR (sec : Str) : trimS (headR sec) = headR sec := by
  refine trimS_id ?_ ?_
  · intro c t h; simp only [headR, List.cons_append] at h; injection h with h1 h2; subst h1; decide
  · intro c h; rw [headR_last] at h; injection h with h; subst h; decide
theorem trimS_key {k : Str} (h : keyB k = true) : trimS k = k := by
  obtain ⟨h0, h1, h2⟩ := keyB_parts h
  refine trimS_id ?_ ?_
  · intro c t e; exact (keyC_facts _ (h2 c (by rw [e]; simp))).1
  · intro c e; exact (keyC_facts _ (h2 c (List.mem_of_getLast? e))).1
theorem trimS_pairR {l : Ln} (h : MayL l) : trimS (pairR l) = pairR l := by
  obtain ⟨h0, h1, h2⟩ := keyB_parts h.key
  refine trimS_id ?_ ?_
  · intro c t e
    obtain ⟨a, r, hk⟩ := List.exists_cons_of_ne_nil h0
    unfold pairR at e
    rw [hk] at e
    injection e with e1 e2
    subst e1
    exact (keyC_facts _ (h2 _ (by rw [hk]; simp))).1
  · intro c e
    unfold pairR at e
    rw [List.getLast?_append, List.getLast?_cons] at e
    cases hv : l.val.getLast? with
    | none => rw [hv] at e; simp at e; subst e; decide
    | some d =>
      rw [hv] at e
      simp at e
      subst e
      have := trimS_last (l := l.val) (c := d) (by rw [h.trim]; exact hv)
      exact this
theorem headR_line (sec : Str) : (isRemark (headR sec) || isVoid (headR sec)) = false := by
  unfold isRemark isVoid
  rw [trimS_headR]
  rfl
theorem pairR_line {l : Ln} (h : MayL l) : (isRemark (pairR l) || isVoid (pairR l)) = false := by
  obtain ⟨h0, h1, h2⟩ := keyB_parts h.key
  unfold isRemark isVoid
  rw [trimS_pairR h]
  obtain ⟨a, r, hk⟩ := List.exists_cons_of_ne_nil h0
  have := keyC_facts a (h2 a (by rw [hk]; simp))
  unfold pairR
  rw [hk]
  simp [this]
theorem headR_good {sec : Str} (h : sectB sec = true) : goodS (headR sec) = true := by
  obtain ⟨h0, h1, h2⟩ := sectB_parts h
  unfold goodS
  rw [List.all_eq_true]
  simp only [headR, List.cons_append, List.mem_cons, List.mem_append, List.mem_nil_iff, or_false]
  rintro c (rfl | e | rfl)
  · decide
  · simp [(letter_facts _ (h2 _ e)).2.1]
  · decide
theorem pairR_good {l : Ln} (h : MayL l) : goodS (pairR l) = true := by
  obtain ⟨h0, h1, h2⟩ := keyB_parts h.key
  unfold goodS
  rw [List.all_eq_true]
  simp only [pairR, List.mem_cons, List.mem_append]
  rintro c (e | rfl | e)
  · simp [(keyC_facts _ (h2 _ e)).2.1]
  · decide
  · exact List.all_eq_true.1 h.good c e
theorem says_headR (sec name : Str) (h : sectB name = true) : saysS sec (headR name) = .sect name := by
  have hl := (sectB_parts h).2.1
  unfold saysS
  rw [if_pos (headR_good h), if_pos (by simp [headR]; omega), trimS_headR]
  simp [headR, h]
theorem says_pairR (sec : Str) (hs : sec ≠ []) {l : Ln} (h : MayL l) : saysS sec (pairR l) = .pair l.key l.val := by
  obtain ⟨h0, h1, h2⟩ := keyB_parts h.key
  have hlen := h.len
  unfold saysS
  rw [if_pos (pairR_good h), if_pos (by simp [pairR]; omega), trimS_pairR h]
  have hc : cutEq (pairR l) = some (l.key, l.val) := by
    refine cutEq_app ?_ _
    rw [← Bool.not_eq_true, List.contains_iff_mem]
    intro e
    exact (keyC_facts _ (h2 _ e)).2.2.2.1 rfl
  obtain ⟨a, r, hk⟩ := List.exists_cons_of_ne_nil h0
  have ha := keyC_facts a (h2 a (by rw [hk]; simp))
  have hp : pairR l = a :: (r ++ 61 :: l.val) := by simp [pairR, hk]
  rw [hp] at hc ⊢
  have h91 : (a == 91) = false := by simpa using ha.2.2.2.2.2.1
  have hsec : sec.isEmpty = false := by simpa using hs
  simp only [h91, hc, trimS_key h.key, h.key, h.trim, hsec]
  simp

/-- The rows of what is written. -/
def textR : Option Str → List Ln → List Str
  | _, [] => []
  | none, l :: r => headR l.sec :: pairR l :: textR (some l.sec) r
  | some s, l :: r => (if l.sec = s then [] else [[], headR l.sec]) ++ pairR l :: textR (some l.sec) r
/-- The numbers that the lines have, in a text of which n rows stand ahead. -/
def numS : Option Str → List Ln → Nat → List Ln
  | _, [], _ => []
  | none, l :: r, n => { l with at_ := ((n + 2 : Nat) : Int) } :: numS (some l.sec) r (n + 2)
  | some s, l :: r, n => if l.sec = s then { l with at_ := ((n + 1 : Nat) : Int) } :: numS (some l.sec) r (n + 1) else { l with at_ := ((n + 3 : Nat) : Int) } :: numS (some l.sec) r (n + 3)
def lastSec (sec : Str) : List Ln → Str
  | [] => sec
  | l :: r => lastSec l.sec r

theorem rows_text : ∀ (l : List Ln) (p : Option Str) (more : Str), (∀ x ∈ l, MayL x) → rowsS (textS p l ++ more) = textR p l ++ rowsS more
  | [], p, more, _ => by cases p <;> simp [textS, textR]
  | x :: r, none, more, h => by
    have hx := h x (by simp)
    simp only [textS, textR]
    rw [List.append_assoc, List.append_assoc, headS_eq, rowsS_app (headR_no10 hx.sec), pairS_eq, rowsS_app (pairR_no10 hx), rows_text r _ more (fun y hy => h y (by simp [hy]))]
    simp
  | x :: r, some s, more, h => by
    have hx := h x (by simp)
    simp only [textS, textR]
    split
    · rw [List.nil_append, List.append_assoc, pairS_eq, rowsS_app (pairR_no10 hx), rows_text r _ more (fun y hy => h y (by simp [hy]))]
      simp
    · rw [List.append_assoc, List.append_assoc, List.cons_append, headS_eq]
      have := rowsS_app (a := []) (by rfl) (headR x.sec ++ 10 :: (pairS x ++ (textS (some x.sec) r ++ more)))
      rw [List.nil_append] at this
      rw [this, rowsS_app (headR_no10 hx.sec), pairS_eq, rowsS_app (pairR_no10 hx), rows_text r _ more (fun y hy => h y (by simp [hy]))]
      simp

theorem read_head {name sec : Str} (h : sectB name = true) (R : List Str) (n : Nat) (out : List Ln) : readS (wholes (headR name :: R) n) sec out = readS (wholes R (n + 1)) name out := by
  rw [wholes_plain (headR_line _) (headR_stay _)]
  simp only [readS, says_headR sec name h]
theorem read_pair {x : Ln} (h : MayL x) (R : List Str) (n : Nat) (out : List Ln) : readS (wholes (pairR x :: R) n) x.sec out = readS (wholes R (n + 1)) x.sec (out ++ [{ x with at_ := ((n + 1 : Nat) : Int) }]) := by
  rw [wholes_plain (pairR_line h) (pairR_stay h)]
  simp only [readS, says_pairR x.sec (sectB_parts h.sec).1 h]
theorem read_void (R : List Str) (n : Nat) (sec : Str) (out : List Ln) : readS (wholes ([] :: R) n) sec out = readS (wholes R (n + 1)) sec out := by
  rw [wholes_skip (by decide)]

/-- What is written is read. -/
theorem read_text : ∀ (l : List Ln) (p : Option Str) (n : Nat) (sec : Str) (out : List Ln) (R : List Str), (∀ x ∈ l, MayL x) → (∀ s, p = some s → s = sec) →
    readS (wholes (textR p l ++ R) n) sec out = readS (wholes R (n + (textR p l).length)) (lastSec sec l) (out ++ numS p l n)
  | [], p, n, sec, out, R, _, _ => by cases p <;> simp [textR, numS, lastSec]
  | x :: r, none, n, sec, out, R, h, _ => by
    have hx := h x (by simp)
    simp only [textR, numS, lastSec, List.cons_append]
    rw [read_head hx.sec, read_pair hx, read_text r (some x.sec) _ x.sec _ R (fun y hy => h y (by simp [hy])) (fun s e => by injection e with e; exact e.symm)]
    simp only [List.length_cons, List.append_assoc, List.singleton_append]
    rw [show n + 1 + 1 + (textR (some x.sec) r).length = n + ((textR (some x.sec) r).length + 1 + 1) by omega]
  | x :: r, some s, n, sec, out, R, h, hs => by
    have hx := h x (by simp)
    have := hs s rfl
    subst this
    simp only [textR, numS, lastSec]
    split
    · rename_i e
      subst e
      rw [List.nil_append, List.cons_append, read_pair hx, read_text r (some x.sec) _ x.sec _ R (fun y hy => h y (by simp [hy])) (fun s e => by injection e with e; exact e.symm)]
      simp only [List.length_cons, List.append_assoc, List.singleton_append]
      rw [show n + 1 + (textR (some x.sec) r).length = n + ((textR (some x.sec) r).length + 1) by omega]
    · simp only [List.cons_append, List.nil_append]
      rw [read_void, read_head hx.sec, read_pair hx, read_text r (some x.sec) _ x.sec _ R (fun y hy => h y (by simp [hy])) (fun s e => by injection e with e; exact e.symm)]
      simp only [List.length_cons, List.append_assoc, List.singleton_append]
      rw [show n + 1 + 1 + 1 + (textR (some x.sec) r).length = n + ((textR (some x.sec) r).length + 1 + 1 + 1) by omega]

inductive sameLns : List Ln → List Ln → Prop where
  | nil : sameLns [] []
  | cons {a b : Ln} {l m : List Ln} (h : sameLn a b) (t : sameLns l m) : sameLns (a :: l) (b :: m)
def risingFrom (n : Int) : List Ln → Prop
  | [] => True
  | x :: r => n < x.at_ ∧ risingFrom x.at_ r
theorem num_same : ∀ (l : List Ln) (p : Option Str) (n : Nat), sameLns l (numS p l n)
  | [], p, n => by cases p <;> exact .nil
  | x :: r, none, n => .cons ⟨rfl, rfl, rfl⟩ (num_same r _ _)
  | x :: r, some s, n => by
    unfold numS
    split
    · exact .cons ⟨rfl, rfl, rfl⟩ (num_same r _ _)
    · exact .cons ⟨rfl, rfl, rfl⟩ (num_same r _ _)
theorem num_rising : ∀ (l : List Ln) (p : Option Str) (n : Nat), risingFrom n (numS p l n)
  | [], p, n => by cases p <;> trivial
  | x :: r, none, n => ⟨by simp; omega, num_rising r _ _⟩
  | x :: r, some s, n => by
    unfold numS
    split
    · exact ⟨by simp; omega, num_rising r _ _⟩
    · exact ⟨by simp; omega, num_rising r _ _⟩

theorem may_all {l : List Ln} (h : l.all mayLn = true) : ∀ x ∈ l, MayL x := fun x hx => (mayLn_iff x).1 (List.all_eq_true.1 h x hx)
theorem mayS_parts {l : List Ln} (h : mayS l = true) : (∀ x ∈ l, MayL x) ∧ (writeS l).length ≤ 20000 := by
  simp only [mayS, Bool.and_eq_true, decide_eq_true_eq] at h
  exact ⟨may_all h.1, h.2⟩

/-- What is written is read as it was. -/
theorem parse_write {l : List Ln} (h : mayS l = true) : parseS (writeS l) = .ok (numS none l 0) := by
  obtain ⟨h1, h2⟩ := mayS_parts h
  unfold parseS
  rw [if_pos h2, parseR_eq]
  have h3 := rows_text l none [] h1
  rw [List.append_nil] at h3
  unfold writeS
  rw [h3, read_text l none 0 [] [] (rowsS []) h1 (by simp)]
  rw [show rowsS [] = [[]] from rfl, read_void]
  simp [wholes_nil, readS]
end Go.Proofs.YtbgjpglnikbflaaDoor
