import Derived.Lib.IndexMore
import Derived.Lib.CutLaws
import Derived.Test.YtdjkedcpehhmnaaGreatDoorUS3
namespace Go.Proofs.YtdjkedcpehhmnaaGreatDoor
set_option linter.unusedVariables false
theorem esc_le {r : Str} {d : UInt8} {n : Nat} (h : escOf r = some (d, n)) : 1 ≤ n ∧ n ≤ r.length ∧ d ≠ 0 := by
 match r with
 | [] => simp [escOf] at h
 | a :: r' =>
  simp only [escOf] at h
  split at h
  ·rename_i ha; cases h
   refine ⟨by omega, by simp, ?_⟩
   intro e; subst e; simp at ha
  ·split at h
   ·cases h; simp
   ·split at h
    ·cases h; simp
    ·split at h
     ·cases h; simp
     ·split at h
      ·split at h
       ·rename_i d'' h2
        split at h
        ·cases h
        ·rename_i hd
         cases h
         match r', h2 with
         | _ :: _ :: _, _ => exact ⟨by omega, by simp, hd⟩
         | [], h2 => simp [twoOf] at h2
         | [_], h2 => simp [twoOf] at h2
       ·cases h
      ·cases h
theorem esc_append {r : Str} {d : UInt8} {n : Nat} (t : Str) (h : escOf r = some (d, n)) : escOf (r ++ t) = some (d, n) := by
 match r with
 | [] => simp [escOf] at h
 | a :: r' =>
  simp only [escOf, List.cons_append] at h ⊢
  split
  ·rename_i ha; rw [if_pos ha] at h; exact h
  ·rename_i ha; rw [if_neg ha] at h
   split
   ·rename_i hb; rw [if_pos hb] at h; exact h
   ·rename_i hb; rw [if_neg hb] at h
    split
    ·rename_i hc; rw [if_pos hc] at h; exact h
    ·rename_i hc; rw [if_neg hc] at h
     split
     ·rename_i hd; rw [if_pos hd] at h; exact h
     ·rename_i hd; rw [if_neg hd] at h
      split
      ·rename_i he; rw [if_pos he] at h
       match r', h with
       | x :: y :: r2, h => exact h
       | [], h => simp [twoOf] at h
       | [x], h => simp [twoOf] at h
      ·rename_i he; rw [if_neg he] at h; cases h
theorem one_le' {l : Str} {d : UInt8} {n : Nat} (h : oneS l = .ok (d, n)) : 1 ≤ n ∧ n ≤ l.length ∧ d ≠ 0 := by
 match l with
 | [] => simp [oneS] at h
 | c :: r =>
  simp only [oneS] at h
  split at h
  ·cases h
  ·rename_i hb
   split at h
   ·split at h
    ·rename_i he
     cases h
     have := esc_le he
     exact ⟨by omega, by simp; omega, this.2.2⟩
    ·cases h
   ·cases h
    refine ⟨by omega, by simp, ?_⟩
    intro e; subst e; simp [isBad] at hb
theorem one_append {l : Str} {d : UInt8} {n : Nat} (t : Str) (h : oneS l = .ok (d, n)) : oneS (l ++ t) = .ok (d, n) := by
 match l with
 | [] => simp [oneS] at h
 | c :: r =>
  simp only [oneS, List.cons_append] at h ⊢
  split
  ·rename_i hb; rw [if_pos hb] at h; cases h
  ·rename_i hb; rw [if_neg hb] at h
   split
   ·rename_i h92; rw [if_pos h92] at h
    split at h
    ·rename_i he
     rw [esc_append t he]; exact h
    ·cases h
   ·rename_i h92; rw [if_neg h92] at h; exact h
def Quoted (q : UInt8) (l bs : Str) : Except Nat (Str × Str) := quotedS q (l.length + 1) l bs
def Next (l bs : Str) : Except Nat (Str × Str) := nextS (l.length + 1) l bs
def SplitO (l : Str) (out : List Str) : Except Nat (List Str) := splitS (l.length + 1) l out
theorem quoted_fuel (q : UInt8) : ∀ (f g : Nat) (l bs : Str), l.length < f → l.length < g → quotedS q f l bs = quotedS q g l bs
 | 0, _, _, _, h, _ => absurd h (by omega)
 | _ + 1, 0, _, _, _, h => absurd h (by omega)
 | f + 1, g + 1, [], bs, _, _ => rfl
 | f + 1, g + 1, c :: r, bs, hf, hg => by
  simp only [quotedS]
  split
  ·rfl
  ·split
   ·rfl
   ·rename_i d n ho
    have := one_le' ho
    exact quoted_fuel q f g _ _ (by simp at *; omega) (by simp at *; omega)
theorem Quoted_close (q : UInt8) (r bs : Str) : Quoted q (q :: r) bs = .ok (bs, r) := by
 simp [Quoted, quotedS]
theorem Quoted_err {q c : UInt8} {r bs : Str} {e : Nat} (hc : c ≠ q) (ho : oneS (c :: r) = .error e) : Quoted q (c :: r) bs = .error e := by
 simp [Quoted, quotedS, hc, ho]
theorem Quoted_ok {q c : UInt8} {r bs : Str} {d : UInt8} {n : Nat} (hc : c ≠ q) (ho : oneS (c :: r) = .ok (d, n)) : Quoted q (c :: r) bs = Quoted q ((c :: r).drop n) (bs ++ [d]) := by
 have := one_le' ho
 simp only [Quoted, quotedS, hc, if_false, ho]
 exact quoted_fuel q _ _ _ _ (by simp at *; omega) (by simp at *)
theorem quoted_short {q : UInt8} {bs' r' : Str} : ∀ {f : Nat} {l bs : Str}, quotedS q f l bs = .ok (bs', r') → r'.length < l.length
 | 0, _, _, h => by cases h
 | f + 1, [], _, h => by cases h
 | f + 1, a :: r, bs, h => by
  simp only [quotedS] at h
  split at h
  ·cases h; simp
  ·split at h
   ·cases h
   ·rename_i d n ho
    have h1 := one_le' ho
    have := quoted_short h
    simp at *; omega
theorem next_fuel : ∀ (f g : Nat) (l bs : Str), l.length < f → l.length < g → nextS f l bs = nextS g l bs
 | 0, _, _, _, h, _ => absurd h (by omega)
 | _ + 1, 0, _, _, _, h => absurd h (by omega)
 | f + 1, g + 1, [], bs, _, _ => rfl
 | f + 1, g + 1, c :: r, bs, hf, hg => by
  simp only [nextS]
  split
  ·rfl
  ·split
   ·split
    ·rfl
    ·rename_i hq
     have := quoted_short hq
     exact next_fuel f g _ _ (by simp at *; omega) (by simp at *; omega)
   ·split
    ·rfl
    ·rename_i d n ho
     have := one_le' ho
     exact next_fuel f g _ _ (by simp at *; omega) (by simp at *; omega)
theorem Next_nil (bs : Str) : Next [] bs = .ok (bs, []) := rfl
theorem Next_blank {c : UInt8} (r bs : Str) (h : isBlank c = true) : Next (c :: r) bs = .ok (bs, c :: r) := by simp [Next, nextS, h]
theorem Next_quote_err {c : UInt8} {r bs : Str} {e : Nat} (h : isBlank c = false) (hq : isQuote c = true) (hQ : Quoted c r bs = .error e) : Next (c :: r) bs = .error e := by
 unfold Quoted at hQ
 simp [Next, nextS, h, hq, hQ]
theorem Next_quote_ok {c : UInt8} {r bs bs' r' : Str} (h : isBlank c = false) (hq : isQuote c = true) (hQ : Quoted c r bs = .ok (bs', r')) : Next (c :: r) bs = Next r' bs' := by
 have := quoted_short hQ
 unfold Quoted at hQ
 simp only [Next, nextS, h, hq, hQ, Bool.false_eq_true, if_false, if_true]
 exact next_fuel _ _ _ _ (by simp at *; omega) (by omega)
theorem Next_one_err {c : UInt8} {r bs : Str} {e : Nat} (h : isBlank c = false) (hq : isQuote c = false) (ho : oneS (c :: r) = .error e) : Next (c :: r) bs = .error e := by
 simp [Next, nextS, h, hq, ho]
theorem Next_one_ok {c : UInt8} {r bs : Str} {d : UInt8} {n : Nat} (h : isBlank c = false) (hq : isQuote c = false) (ho : oneS (c :: r) = .ok (d, n)) : Next (c :: r) bs = Next ((c :: r).drop n) (bs ++ [d]) := by
 have := one_le' ho
 simp only [Next, nextS, h, hq, ho, Bool.false_eq_true, if_false]
 exact next_fuel _ _ _ _ (by simp at *; omega) (by simp at *)
theorem next_short {x r : Str} : ∀ {f : Nat} {l bs : Str}, nextS f l bs = .ok (x, r) → r.length ≤ l.length
 | 0, _, _, h => by cases h
 | f + 1, [], _, h => by cases h; simp
 | f + 1, a :: l, bs, h => by
  simp only [nextS] at h
  split at h
  ·cases h; simp
  ·split at h
   ·split at h
    ·cases h
    ·rename_i hq
     have h1 := quoted_short hq
     have h2 := next_short h
     simp at *; omega
   ·split at h
    ·cases h
    ·rename_i d n ho
     have h1 := one_le' ho
     have := next_short h
     simp at *; omega
theorem next_short' {x r : Str} {f : Nat} {a : UInt8} {l bs : Str} (ha : isBlank a = false) (h : nextS f (a :: l) bs = .ok (x, r)) : r.length ≤ l.length := by
 cases f with
 | zero => cases h
 | succ f =>
  simp only [nextS] at h
  split at h
  ·rename_i h'; rw [ha] at h'; cases h'
  ·split at h
   ·split at h
    ·cases h
    ·rename_i hq
     have h1 := quoted_short hq
     have h2 := next_short h
     omega
   ·split at h
    ·cases h
    ·rename_i d n ho
     have h1 := one_le' ho
     have := next_short h
     simp at *; omega
theorem dropWhile_head {l r : Str} {c : UInt8} (h : l.dropWhile isBlank = c :: r) : isBlank c = false := by
 induction l with
 | nil => cases h
 | cons a l ih =>
  rw [List.dropWhile_cons] at h
  split at h
  ·exact ih h
  ·rename_i ha; cases h; simpa using ha
theorem dropWhile_len (l : Str) : (l.dropWhile isBlank).length ≤ l.length := (List.dropWhile_sublist isBlank).length_le
theorem split_fuel : ∀ (f g : Nat) (l : Str) (out : List Str), l.length < f → l.length < g → splitS f l out = splitS g l out
 | 0, _, _, _, h, _ => absurd h (by omega)
 | _ + 1, 0, _, _, _, h => absurd h (by omega)
 | f + 1, g + 1, l, out, hf, hg => by
  have hd := dropWhile_len l
  simp only [splitS]
  split
  ·rfl
  ·rename_i c r hcr
   split
   ·rfl
   ·split
    ·rfl
    ·rename_i w r' hn
     have h1 := next_short' (dropWhile_head hcr) hn
     rw [hcr] at hd
     exact split_fuel f g _ _ (by simp at *; omega) (by simp at *; omega)
theorem SplitO_end {l : Str} {out : List Str} (h : l.dropWhile isBlank = []) : SplitO l out = .ok out := by simp [SplitO, splitS, h]
theorem SplitO_full {l : Str} {out : List Str} {c : UInt8} {r : Str} (h : l.dropWhile isBlank = c :: r) (h32 : out.length = 32) : SplitO l out = .error (beginsS (c :: r)) := by simp [SplitO, splitS, h, h32]
theorem SplitO_err {l : Str} {out : List Str} {c : UInt8} {r : Str} {e : Nat} (h : l.dropWhile isBlank = c :: r) (h32 : out.length ≠ 32) (hn : Next (c :: r) [] = .error e) : SplitO l out = .error e := by
 unfold Next at hn
 simp only [List.length_cons] at hn
 simp [SplitO, splitS, h, h32, hn]
theorem SplitO_ok {l : Str} {out : List Str} {c : UInt8} {r w r' : Str} (h : l.dropWhile isBlank = c :: r) (h32 : out.length ≠ 32) (hn : Next (c :: r) [] = .ok (w, r')) : SplitO l out = SplitO r' (out ++ [w]) := by
 have h1 := next_short' (dropWhile_head h) hn
 have hd := dropWhile_len l
 rw [h] at hd
 unfold Next at hn
 simp only [List.length_cons] at hn
 simp only [SplitO, splitS, h, h32, if_false, hn]
 exact split_fuel l.length (r'.length + 1) r' _ (by simp at hd; omega) (by omega)
theorem SplitO_dw (l : Str) (out : List Str) : SplitO (l.dropWhile isBlank) out = SplitO l out := by
 have e : (l.dropWhile isBlank).dropWhile isBlank = l.dropWhile isBlank := by
  induction l with
  | nil => rfl
  | cons a l ih =>
   by_cases h : isBlank a = true
   ·rw [List.dropWhile_cons, if_pos h, ih]
   ·rw [List.dropWhile_cons, if_neg h, List.dropWhile_cons, if_neg h]
 have hd := dropWhile_len l
 unfold SplitO
 rw [split_fuel ((l.dropWhile isBlank).length + 1) (l.length + 1) _ _ (by omega) (by omega)]
 simp only [splitS, e]
theorem Quoted_append {q : UInt8} (t : Str) : ∀ {f : Nat} {l bs bs' r' : Str}, l.length < f → Quoted q l bs = .ok (bs', r') → Quoted q (l ++ t) bs = .ok (bs', r' ++ t)
 | 0, _, _, _, _, h, _ => absurd h (by omega)
 | f + 1, [], _, _, _, _, h => by cases h
 | f + 1, c :: r, bs, bs', r', hf, h => by
  by_cases hc : c = q
  ·subst hc
   rw [Quoted_close] at h
   cases h
   rw [List.cons_append, Quoted_close]
  ·cases ho : oneS (c :: r) with
   | error e => rw [Quoted_err hc ho] at h; cases h
   | ok x =>
    obtain ⟨d, n⟩ := x
    rw [Quoted_ok hc ho] at h
    have h1 := one_le' ho
    have ho' := one_append t ho
    rw [List.cons_append] at ho' ⊢
    rw [Quoted_ok hc ho']
    have e : (c :: (r ++ t)).drop n = (c :: r).drop n ++ t := by
     rw [← List.cons_append, List.drop_append_of_le_length h1.2.1]
    rw [e]
    exact Quoted_append t (f := f) (by simp at *; omega) h
theorem Next_append (t : Str) : ∀ {f : Nat} {l bs w r' : Str}, l.length < f → Next l bs = .ok (w, r') → Next (l ++ 32 :: t) bs = .ok (w, r' ++ 32 :: t)
 | 0, _, _, _, _, h, _ => absurd h (by omega)
 | f + 1, [], bs, _, _, _, h => by
  cases h
  rw [List.nil_append, Next_blank _ _ rfl]
  try rfl
 | f + 1, c :: r, bs, w, r', hf, h => by
  cases hb : isBlank c with
  | true =>
   rw [Next_blank _ _ hb] at h
   cases h
   rw [List.cons_append, Next_blank _ _ hb]
  | false =>
   cases hq : isQuote c with
   | true =>
    cases hQ : Quoted c r bs with
    | error e => rw [Next_quote_err hb hq hQ] at h; cases h
    | ok x =>
     obtain ⟨bs', r2⟩ := x
     rw [Next_quote_ok hb hq hQ] at h
     have h2 : r2.length < r.length := quoted_short hQ
     have hQ' := Quoted_append (32 :: t) (f := r.length + 1) (by omega) hQ
     rw [List.cons_append, Next_quote_ok hb hq hQ']
     exact Next_append t (f := f) (by simp at *; omega) h
   | false =>
    cases ho : oneS (c :: r) with
    | error e => rw [Next_one_err hb hq ho] at h; cases h
    | ok x =>
     obtain ⟨d, n⟩ := x
     rw [Next_one_ok hb hq ho] at h
     have h1 := one_le' ho
     have ho' := one_append (32 :: t) ho
     rw [List.cons_append] at ho' ⊢
     rw [Next_one_ok hb hq ho']
     have e : (c :: (r ++ 32 :: t)).drop n = (c :: r).drop n ++ 32 :: t := by
      rw [← List.cons_append, List.drop_append_of_le_length h1.2.1]
     rw [e]
     exact Next_append t (f := f) (by simp at *; omega) h
theorem dropWhile_append {l t : Str} {c : UInt8} {r : Str} (h : l.dropWhile isBlank = c :: r) : (l ++ t).dropWhile isBlank = c :: (r ++ t) := by
 induction l with
 | nil => cases h
 | cons a l ih =>
  rw [List.dropWhile_cons] at h
  rw [List.cons_append, List.dropWhile_cons]
  split
  ·rename_i ha; rw [if_pos ha] at h; exact ih h
  ·rename_i ha; rw [if_neg ha] at h; cases h; rfl
theorem dropWhile_append_nil {l t : Str} (h : l.dropWhile isBlank = []) : (l ++ 32 :: t).dropWhile isBlank = t.dropWhile isBlank := by
 induction l with
 | nil => rfl
 | cons a l ih =>
  rw [List.dropWhile_cons] at h
  split at h
  ·rename_i ha
   rw [List.cons_append, List.dropWhile_cons, if_pos ha]
   exact ih h
  ·cases h
theorem SplitO_append (t : Str) : ∀ {f : Nat} {l : Str} {out x : List Str}, l.length < f → SplitO l out = .ok x → SplitO (l ++ 32 :: t) out = SplitO t x
 | 0, _, _, _, h, _ => absurd h (by omega)
 | f + 1, l, out, x, hf, h => by
  cases hd : l.dropWhile isBlank with
  | nil =>
   rw [SplitO_end hd] at h
   cases h
   rw [← SplitO_dw (l ++ 32 :: t), dropWhile_append_nil hd, SplitO_dw]
  | cons c r =>
   by_cases h32 : out.length = 32
   ·rw [SplitO_full hd h32] at h; cases h
   ·cases hn : Next (c :: r) [] with
    | error e => rw [SplitO_err hd h32 hn] at h; cases h
    | ok y =>
     obtain ⟨w, r'⟩ := y
     rw [SplitO_ok hd h32 hn] at h
     have hl := dropWhile_len l
     rw [hd] at hl
     have h1 : r'.length ≤ r.length := next_short' (dropWhile_head hd) hn
     have hn' := Next_append t (f := (c :: r).length + 1) (by omega) hn
     rw [List.cons_append] at hn'
     rw [SplitO_ok (dropWhile_append hd) h32 hn']
     exact SplitO_append t (f := f) (by simp at *; omega) h
theorem split_eq (l : Str) : split l = SplitO l [] := rfl
theorem one_plain' {c : UInt8} (r : Str) (hb : isBad c = false) (h : c ≠ 92) : oneS (c :: r) = .ok (c, 1) := by simp [oneS, hb, h]
theorem quoteByte_one (c : UInt8) (h : c ≠ 0) : oneS (quoteByte c) = .ok (c, (quoteByte c).length) ∧ ∃ a r, quoteByte c = a :: r ∧ a ≠ 34 := by
 have := u8_forall (p := fun c => c == 0 || ((match oneS (quoteByte c) with | .ok (d, n) => d == c && n == (quoteByte c).length | .error _ => false) && (match quoteByte c with | a :: _ => a != 34 | [] => false))) (by decide +kernel) c
 have h0 : (c == 0) = false := by simpa using h
 rw [h0, Bool.false_or, Bool.and_eq_true] at this
 obtain ⟨h1, h2⟩ := this
 constructor
 ·split at h1
  ·rename_i d n ho
   rw [Bool.and_eq_true] at h1
   rw [eq_of_beq h1.1, eq_of_beq h1.2] at ho
   exact ho
  ·cases h1
 ·split at h2
  ·rename_i a r hq
   exact ⟨a, r, hq, by simpa using h2⟩
  ·cases h2
theorem Quoted_byte {c : UInt8} (h : c ≠ 0) (t bs : Str) : Quoted 34 (quoteByte c ++ t) bs = Quoted 34 t (bs ++ [c]) := by
 obtain ⟨ho, a, r, hq, ha⟩ := quoteByte_one c h
 have ho' := one_append t ho
 rw [hq] at ho' ⊢
 rw [List.cons_append] at ho' ⊢
 rw [Quoted_ok ha ho']
 congr 1
 rw [← List.cons_append, List.drop_left]
theorem Quoted_all : ∀ (w t bs : Str), w.contains 0 = false → Quoted 34 (w.flatMap quoteByte ++ 34 :: t) bs = .ok (bs ++ w, t)
 | [], t, bs, _ => by rw [List.flatMap_nil, List.nil_append, Quoted_close]; simp
 | c :: w, t, bs, h => by
  have hc : c ≠ 0 := by intro e; subst e; simp at h
  have hw : w.contains 0 = false := by
   rw [List.contains_cons, Bool.or_eq_false_iff] at h; exact h.2
  rw [List.flatMap_cons, List.append_assoc, Quoted_byte hc, Quoted_all w t _ hw]
  simp
theorem plain_byte (c : UInt8) (h : (32 < c && c < 127 && c != 39 && c != 34 && c != 92) = true) : isBad c = false ∧ c ≠ 92 ∧ isBlank c = false ∧ isQuote c = false := by
 have := u8_forall (p := fun c => !(32 < c && c < 127 && c != 39 && c != 34 && c != 92) || (!isBad c && c != 92 && !isBlank c && !isQuote c)) (by decide +kernel) c
 rw [h] at this
 simpa [and_assoc] using this
theorem Next_plain : ∀ (w bs : Str), (∀ c ∈ w, (32 < c && c < 127 && c != 39 && c != 34 && c != 92) = true) → Next w bs = .ok (bs ++ w, [])
 | [], bs, _ => by rw [Next_nil]; simp
 | c :: w, bs, h => by
  obtain ⟨h1, h2, h3, h4⟩ := plain_byte c (h c (by simp))
  rw [Next_one_ok h3 h4 (one_plain' _ h1 h2), List.drop_succ_cons, List.drop_zero, Next_plain w _ (fun c hc => h c (by simp [hc]))]
  simp
theorem SplitO_word {w : Str} (h0 : w.contains 0 = false) {out : List Str} (h32 : out.length ≠ 32) : SplitO (wordS w) out = .ok (out ++ [w]) := by
 unfold wordS
 split
 ·rename_i hp
  match w, hp with
  | c :: r, hp =>
   simp only [plainB, Bool.and_eq_true] at hp
   have hall := List.all_eq_true.1 hp.2
   obtain ⟨h1, h2, h3, h4⟩ := plain_byte c (hall c (by simp))
   rw [SplitO_ok (c := c) (r := r) (w := c :: r) (r' := []) (by rw [List.dropWhile_cons, if_neg (by simp [h3])]) h32 (Next_plain _ [] (fun c hc => hall c hc))]
   rfl
 ·unfold quoteS
  rw [SplitO_ok (c := 34) (r := w.flatMap quoteByte ++ [34]) (w := w) (r' := []) rfl h32 (by
   rw [Next_quote_ok rfl rfl (Quoted_all w [] [] h0), Next_nil]; simp)]
  rfl
theorem SplitO_join : ∀ (l : List Str) (out : List Str), l.any (fun w => w.contains 0) = false → out.length + l.length ≤ 32 → SplitO (joinBy [32] (l.map wordS)) out = .ok (out ++ l)
 | [], out, _, _ => by simp only [List.map_nil, joinBy, List.append_nil]; rfl
 | [w], out, h, hl => by
  simp only [List.map_cons, List.map_nil, joinBy]
  exact SplitO_word (by simpa using h) (by simp at hl; omega)
 | a :: b :: r, out, h, hl => by
  simp only [List.any_cons, Bool.or_eq_false_iff] at h
  simp only [List.map_cons, joinBy]
  rw [List.append_assoc, List.singleton_append, SplitO_append _ (f := (wordS a).length + 1) (by omega) (SplitO_word h.1 (by simp at hl; omega))]
  have ih := SplitO_join (b :: r) (out ++ [a]) (by simp only [List.any_cons, Bool.or_eq_false_iff]; exact h.2) (by simp at hl ⊢; omega)
  simp only [List.map_cons] at ih
  rw [ih]; simp
theorem split_join (l : List Str) (h0 : l.any (fun w => w.contains 0) = false) (hl : l.length ≤ 32) : split (join l) = .ok l := by
 unfold join
 rw [if_neg (by omega), h0, split_eq]
 simp only [Bool.false_eq_true, if_false]
 rw [SplitO_join l [] h0 (by simpa using hl)]
 simp
theorem Quoted_zero {q : UInt8} : ∀ {f : Nat} {l bs bs' r' : Str}, l.length < f → Quoted q l bs = .ok (bs', r') → bs.contains 0 = false → bs'.contains 0 = false
 | 0, _, _, _, _, h, _, _ => absurd h (by omega)
 | f + 1, [], _, _, _, _, h, _ => by cases h
 | f + 1, c :: r, bs, bs', r', hf, h, hz => by
  by_cases hc : c = q
  ·subst hc; rw [Quoted_close] at h; cases h; exact hz
  ·cases ho : oneS (c :: r) with
   | error e => rw [Quoted_err hc ho] at h; cases h
   | ok x =>
    obtain ⟨d, n⟩ := x
    rw [Quoted_ok hc ho] at h
    have h1 := one_le' ho
    refine Quoted_zero (f := f) (by simp at *; omega) h ?_
    have h3 : ¬ 0 = d := fun e => h1.2.2 e.symm
    simpa [h3] using hz
theorem Next_zero : ∀ {f : Nat} {l bs w r' : Str}, l.length < f → Next l bs = .ok (w, r') → bs.contains 0 = false → w.contains 0 = false
 | 0, _, _, _, _, h, _, _ => absurd h (by omega)
 | f + 1, [], _, _, _, _, h, hz => by cases h; exact hz
 | f + 1, c :: r, bs, w, r', hf, h, hz => by
  cases hb : isBlank c with
  | true => rw [Next_blank _ _ hb] at h; cases h; exact hz
  | false =>
   cases hq : isQuote c with
   | true =>
    cases hQ : Quoted c r bs with
    | error e => rw [Next_quote_err hb hq hQ] at h; cases h
    | ok x =>
     obtain ⟨bs', r2⟩ := x
     rw [Next_quote_ok hb hq hQ] at h
     have h2 : r2.length < r.length := quoted_short hQ
     exact Next_zero (f := f) (by simp at *; omega) h (Quoted_zero (f := r.length + 1) (by omega) hQ hz)
   | false =>
    cases ho : oneS (c :: r) with
    | error e => rw [Next_one_err hb hq ho] at h; cases h
    | ok x =>
     obtain ⟨d, n⟩ := x
     rw [Next_one_ok hb hq ho] at h
     have h1 := one_le' ho
     refine Next_zero (f := f) (by simp at *; omega) h ?_
     have h3 : ¬ 0 = d := fun e => h1.2.2 e.symm
     simpa [h3] using hz
theorem SplitO_zero : ∀ {f : Nat} {l : Str} {out x : List Str}, l.length < f → SplitO l out = .ok x → out.any (fun w => w.contains 0) = false → out.length ≤ 32 → x.any (fun w => w.contains 0) = false ∧ x.length ≤ 32
 | 0, _, _, _, h, _, _, _ => absurd h (by omega)
 | f + 1, l, out, x, hf, h, hz, hl => by
  cases hd : l.dropWhile isBlank with
  | nil => rw [SplitO_end hd] at h; cases h; exact ⟨hz, hl⟩
  | cons c r =>
   by_cases h32 : out.length = 32
   ·rw [SplitO_full hd h32] at h; cases h
   ·cases hn : Next (c :: r) [] with
    | error e => rw [SplitO_err hd h32 hn] at h; cases h
    | ok y =>
     obtain ⟨w, r'⟩ := y
     rw [SplitO_ok hd h32 hn] at h
     have hdl := dropWhile_len l
     rw [hd] at hdl
     have h1 : r'.length ≤ r.length := next_short' (dropWhile_head hd) hn
     have hw := Next_zero (f := (c :: r).length + 1) (by omega) hn rfl
     exact SplitO_zero (f := f) (by simp at *; omega) h (by rw [List.any_append, hz]; simp only [List.any_cons, hw]; rfl) (by simp; omega)
theorem split_back {s : Str} {l : List Str} (h : split s = .ok l) : split (join l) = .ok l ∧ l.length ≤ 32 := by
 rw [split_eq] at h
 obtain ⟨h1, h2⟩ := SplitO_zero (f := s.length + 1) (by omega) h rfl (by simp)
 exact ⟨split_join l h1 h2, h2⟩
theorem Quoted_size {q : UInt8} : ∀ {f : Nat} {l bs bs' r' : Str}, l.length < f → Quoted q l bs = .ok (bs', r') → bs'.length + r'.length ≤ bs.length + l.length
 | 0, _, _, _, _, h, _ => absurd h (by omega)
 | f + 1, [], _, _, _, _, h => by cases h
 | f + 1, c :: r, bs, bs', r', hf, h => by
  by_cases hc : c = q
  ·subst hc; rw [Quoted_close] at h; cases h; simp
  ·cases ho : oneS (c :: r) with
   | error e => rw [Quoted_err hc ho] at h; cases h
   | ok x =>
    obtain ⟨d, n⟩ := x
    rw [Quoted_ok hc ho] at h
    have h1 := one_le' ho
    have := Quoted_size (f := f) (by simp at *; omega) h
    simp at *; omega
theorem Next_size : ∀ {f : Nat} {l bs w r' : Str}, l.length < f → Next l bs = .ok (w, r') → w.length + r'.length ≤ bs.length + l.length
 | 0, _, _, _, _, h, _ => absurd h (by omega)
 | f + 1, [], _, _, _, _, h => by cases h; simp
 | f + 1, c :: r, bs, w, r', hf, h => by
  cases hb : isBlank c with
  | true => rw [Next_blank _ _ hb] at h; cases h; simp
  | false =>
   cases hq : isQuote c with
   | true =>
    cases hQ : Quoted c r bs with
    | error e => rw [Next_quote_err hb hq hQ] at h; cases h
    | ok x =>
     obtain ⟨bs', r2⟩ := x
     rw [Next_quote_ok hb hq hQ] at h
     have h2 : r2.length < r.length := quoted_short hQ
     have h3 := Quoted_size (f := r.length + 1) (by omega) hQ
     have := Next_size (f := f) (by simp at *; omega) h
     simp at *; omega
   | false =>
    cases ho : oneS (c :: r) with
    | error e => rw [Next_one_err hb hq ho] at h; cases h
    | ok x =>
     obtain ⟨d, n⟩ := x
     rw [Next_one_ok hb hq ho] at h
     have h1 := one_le' ho
     have := Next_size (f := f) (by simp at *; omega) h
     simp at *; omega
theorem SplitO_size {m : Nat} : ∀ {f : Nat} {l : Str} {out x : List Str}, l.length < f → l.length ≤ m → SplitO l out = .ok x → (∀ w ∈ out, w.length ≤ m) → ∀ w ∈ x, w.length ≤ m
 | 0, _, _, _, h, _, _, _ => absurd h (by omega)
 | f + 1, l, out, x, hf, hm, h, ho => by
  cases hd : l.dropWhile isBlank with
  | nil => rw [SplitO_end hd] at h; cases h; exact ho
  | cons c r =>
   by_cases h32 : out.length = 32
   ·rw [SplitO_full hd h32] at h; cases h
   ·cases hn : Next (c :: r) [] with
    | error e => rw [SplitO_err hd h32 hn] at h; cases h
    | ok y =>
     obtain ⟨w, r'⟩ := y
     rw [SplitO_ok hd h32 hn] at h
     have hdl := dropWhile_len l
     rw [hd] at hdl
     have h1 : r'.length ≤ r.length := next_short' (dropWhile_head hd) hn
     have h2 := Next_size (f := (c :: r).length + 1) (by omega) hn
     refine SplitO_size (f := f) (by simp at *; omega) (by simp at *; omega) h ?_
     intro z hz
     rcases List.mem_append.1 hz with hz | hz
     ·exact ho z hz
     ·simp at hz; subst hz; simp at *; omega
theorem split_size {s : Str} {l : List Str} (h : split s = .ok l) : ∀ w ∈ l, w.length ≤ s.length := by
 rw [split_eq] at h
 exact SplitO_size (f := s.length + 1) (by omega) (Nat.le_refl _) h (by simp)
set_option linter.unusedSimpArgs false
def execS (s : Str) : Option (Bool × List Str) :=
 match split (Go.Lib.trimPrefix s [45]) with
 | .ok (x :: t) => if x = [] then none else some (Go.Lib.hasPrefix s [45], x :: t)
 | _ => none
def varP (c : UInt8) : Bool := ([isLetter, isDigit, fun c => ([95] : Str).contains c] : List (UInt8 → Bool)).any fun p => p c
def varB (s : Str) : Bool := (!s.isEmpty && decide (s.length ≤ 60) && s.all varP) && !(isDigit (s.headD 0))
def envL : List Str → Option (List (Str × Str))
 | [] => some []
 | w :: t => if (Go.Lib.cut w [61]).2.2 = true ∧ varB (Go.Lib.cut w [61]).1 = true then (envL t).map fun r => ((Go.Lib.cut w [61]).1, (Go.Lib.cut w [61]).2.1) :: r else none
def envS (s : Str) : List (Str × Str) × Bool :=
 match split s with
 | .error _ => ([], false)
 | .ok l => match envL l with
  | none => ([], false)
  | some ps => (ps, decide (0 < ps.length))
theorem split_small (s : Str) (l : List Str) (h : split s = .ok l) : l.length ≤ 32 ∧ ∀ x ∈ l, x.length ≤ s.length := ⟨(split_back h).2, split_size h⟩
end Go.Proofs.YtdjkedcpehhmnaaGreatDoor
