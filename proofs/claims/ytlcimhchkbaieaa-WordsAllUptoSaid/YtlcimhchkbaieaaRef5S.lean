/-
  Plain: what the reference's Split computes, and that it is what words.Split computes.
-/
import Derived.Test.YtlcimhchkbaieaaWordsL
namespace Go.Proofs.Ytlcimhchkbaieaa

def refS : Nat → List Str → Option Str → UInt8 → Str → Except Nat (List Str)
  | 0, _, _, _, _ => .error 0
  | _ + 1, out, cur, q, [] => if q = 0 then .ok (out ++ cur.toList) else .error 13
  | f + 1, out, cur, q, c :: r =>
    if isBad c then .error 1
    else if isBlank c && q == 0 then refS f (out ++ cur.toList) none q r
    else if cur.isNone && out.length == 32 then .error (if c == 92 && (escOf r).isNone then 13 else 2)
    else if c == 92 then
      match escOf r with
      | none => .error 13
      | some (d, n) => refS f out (some (cur.getD [] ++ [d])) q (r.drop n)
    else if q == 0 && isQuote c then refS f out (some (cur.getD [])) c r
    else if q != 0 && c == q then refS f out (some (cur.getD [])) 0 r
    else refS f out (some (cur.getD [] ++ [c])) q r

theorem refS_fuel : ∀ (f g : Nat) (out : List Str) (cur : Option Str) (q : UInt8) (l : Str), l.length < f → l.length < g → refS f out cur q l = refS g out cur q l
  | 0, _, _, _, _, _, h, _ => absurd h (by omega)
  | _ + 1, 0, _, _, _, _, _, h => absurd h (by omega)
  | f + 1, g + 1, out, cur, q, [], _, _ => rfl
  | f + 1, g + 1, out, cur, q, c :: r, hf, hg => by
    have h1 : r.length < f := by simp at hf; omega
    have h2 : r.length < g := by simp at hg; omega
    simp only [refS]
    rw [refS_fuel f g _ none q r h1 h2, refS_fuel f g _ (some (cur.getD [])) c r h1 h2, refS_fuel f g _ (some (cur.getD [])) 0 r h1 h2, refS_fuel f g _ (some (cur.getD [] ++ [c])) q r h1 h2]
    split
    · rfl
    · split
      · rfl
      · split
        · rfl
        · split
          · split
            · rfl
            · rename_i d n _
              exact refS_fuel f g _ _ q _ (by simp; omega) (by simp; omega)
          · rfl

def Ref (out : List Str) (cur : Option Str) (q : UInt8) (l : Str) : Except Nat (List Str) := refS (l.length + 1) out cur q l

theorem Ref_nil (out : List Str) (cur : Option Str) (q : UInt8) : Ref out cur q [] = if q = 0 then .ok (out ++ cur.toList) else .error 13 := rfl
theorem Ref_cons (out : List Str) (cur : Option Str) (q c : UInt8) (r : Str) : Ref out cur q (c :: r) =
    if isBad c then .error 1
    else if isBlank c && q == 0 then Ref (out ++ cur.toList) none q r
    else if cur.isNone && out.length == 32 then .error (if c == 92 && (escOf r).isNone then 13 else 2)
    else if c == 92 then
      match escOf r with
      | none => .error 13
      | some (d, n) => Ref out (some (cur.getD [] ++ [d])) q (r.drop n)
    else if q == 0 && isQuote c then Ref out (some (cur.getD [])) c r
    else if q != 0 && c == q then Ref out (some (cur.getD [])) 0 r
    else Ref out (some (cur.getD [] ++ [c])) q r := by
  simp only [Ref, refS, List.length_cons]
  split
  · rfl
  · split
    · rfl
    · split
      · rfl
      · split
        · split
          · rfl
          · exact refS_fuel _ _ _ _ _ _ (by simp; omega) (by simp)
        · rfl

theorem quote_byte (c : UInt8) (h : isQuote c = true) : isBad c = false ∧ c ≠ 92 ∧ isBlank c = false ∧ c ≠ 0 := by
  have := u8_forall (p := fun c => !isQuote c || (!isBad c && c != 92 && !isBlank c && c != 0)) (by decide +kernel) c
  rw [h] at this
  simpa [and_assoc] using this
theorem blank_byte (c : UInt8) (h : isBlank c = true) : isBad c = false ∧ c ≠ 92 ∧ isQuote c = false := by
  have := u8_forall (p := fun c => !isBlank c || (!isBad c && c != 92 && !isQuote c)) (by decide +kernel) c
  rw [h] at this
  simpa [and_assoc] using this

theorem Ref_quoted (out : List Str) {q : UInt8} (hq : isQuote q = true) : ∀ {f : Nat} {l : Str} (w : Str), l.length < f →
    Ref out (some w) q l = match Quoted q l w with
      | .error e => .error e
      | .ok (w', r) => Ref out (some w') 0 r
  | 0, _, _, h => absurd h (by omega)
  | f + 1, [], w, _ => by
    rw [Ref_nil, if_neg (quote_byte q hq).2.2.2, Quoted_nil]
  | f + 1, c :: r, w, hf => by
    have hq0 := (quote_byte q hq).2.2.2
    have hq0' : (q == 0) = false := by simpa using hq0
    rw [Ref_cons]
    simp only [hq0', Bool.and_false, Bool.false_and, Option.isNone_some, Bool.false_eq_true, if_false, Option.getD_some]
    by_cases hc : c = q
    · subst hc
      obtain ⟨h1, h2, _, _⟩ := quote_byte c hq
      have h92 : (c == 92) = false := by simpa using h2
      rw [Quoted_close]
      simp [h1, h92, hq0]
    · have hcq : (c == q) = false := by simpa using hc
      cases hb : isBad c with
      | true =>
        have ho : oneS (c :: r) = .error 1 := by simp [oneS, hb]
        rw [Quoted_err hc ho]; simp
      | false =>
        by_cases h92 : c = 92
        · subst h92
          cases he : escOf r with
          | none =>
            have ho : oneS (92 :: r) = .error 13 := by simp [oneS, he, hb]
            rw [Quoted_err hc ho]; simp
          | some x =>
            obtain ⟨d, n⟩ := x
            have ho : oneS (92 :: r) = .ok (d, n + 1) := by simp [oneS, he, hb]
            have hle := (esc_le he).2.1
            rw [Quoted_ok hc ho]
            simp only [Bool.false_eq_true, if_false, beq_self_eq_true, if_true, List.drop_succ_cons]
            exact Ref_quoted out hq (f := f) _ (by simp at *; omega)
        · have ho : oneS (c :: r) = .ok (c, 1) := one_plain' r hb h92
          have h92' : (c == 92) = false := by simpa using h92
          rw [Quoted_ok hc ho]
          simp only [Bool.false_eq_true, if_false, h92', hcq, Bool.and_false, List.drop_succ_cons, List.drop_zero]
          exact Ref_quoted out hq (f := f) _ (by simp at *; omega)

theorem Ref_next (out : List Str) : ∀ {f : Nat} {l : Str} (w : Str), l.length < f →
    Ref out (some w) 0 l = match Next l w with
      | .error e => .error e
      | .ok (w', r) => Ref (out ++ [w']) none 0 r
  | 0, _, _, h => absurd h (by omega)
  | f + 1, [], w, _ => by rw [Ref_nil, Next_nil]; simp [Ref_nil]
  | f + 1, c :: r, w, hf => by
    cases hb : isBlank c with
    | true =>
      obtain ⟨h1, h2, h3⟩ := blank_byte c hb
      rw [Next_blank _ _ hb]
      simp only [Ref_cons, h1, hb]
      simp
    | false =>
      cases hq : isQuote c with
      | true =>
        obtain ⟨h1, h2, _, _⟩ := quote_byte c hq
        have h92 : (c == 92) = false := by simpa using h2
        rw [Ref_cons]
        simp only [h1, hb, h92, hq, Bool.false_and, Option.isNone_some, Bool.false_eq_true, if_false, Option.getD_some, beq_self_eq_true, Bool.and_self, if_true]
        rw [Ref_quoted out hq (f := r.length + 1) w (by omega)]
        cases hQ : Quoted c r w with
        | error e => rw [Next_quote_err hb hq hQ]
        | ok x =>
          obtain ⟨w', r'⟩ := x
          have h2 : r'.length < r.length := quoted_short hQ
          rw [Next_quote_ok hb hq hQ]
          exact Ref_next out (f := f) w' (by simp at *; omega)
      | false =>
        rw [Ref_cons]
        simp only [hb, hq, Bool.false_and, Option.isNone_some, Bool.false_eq_true, if_false, Option.getD_some, Bool.and_false, bne_self_eq_false]
        cases hbad : isBad c with
        | true =>
          have ho : oneS (c :: r) = .error 1 := by simp [oneS, hbad]
          rw [Next_one_err hb hq ho]; simp
        | false =>
          by_cases h92 : c = 92
          · subst h92
            cases he : escOf r with
            | none =>
              have ho : oneS (92 :: r) = .error 13 := by simp [oneS, he, hbad]
              rw [Next_one_err hb hq ho]; simp
            | some x =>
              obtain ⟨d, n⟩ := x
              have ho : oneS (92 :: r) = .ok (d, n + 1) := by simp [oneS, he, hbad]
              have hle := (esc_le he).2.1
              rw [Next_one_ok hb hq ho]
              simp only [Bool.false_eq_true, if_false, beq_self_eq_true, if_true, List.drop_succ_cons]
              exact Ref_next out (f := f) _ (by simp at *; omega)
          · have ho : oneS (c :: r) = .ok (c, 1) := one_plain' r hbad h92
            have h92' : (c == 92) = false := by simpa using h92
            rw [Next_one_ok hb hq ho]
            simp only [Bool.false_eq_true, if_false, h92', List.drop_succ_cons, List.drop_zero]
            exact Ref_next out (f := f) _ (by simp at *; omega)

theorem Ref_split : ∀ {f : Nat} {l : Str} (out : List Str), l.length < f → out.length ≤ 32 → Ref out none 0 l = SplitO l out
  | 0, _, _, h, _ => absurd h (by omega)
  | f + 1, [], out, _, _ => by rw [Ref_nil, SplitO_end rfl]; simp
  | f + 1, c :: r, out, hf, ho => by
    cases hb : isBlank c with
    | true =>
      obtain ⟨h1, h2, h3⟩ := blank_byte c hb
      have e : SplitO (c :: r) out = SplitO r out := by
        rw [← SplitO_dw (c :: r), List.dropWhile_cons, if_pos hb, SplitO_dw]
      rw [e, Ref_cons]
      simp only [h1, hb]
      simp only [Bool.false_eq_true, if_false, beq_self_eq_true, Bool.and_self, if_true, Option.toList_none, List.append_nil]
      exact Ref_split (f := f) out (by simp at *; omega) ho
    | false =>
      have hd : (c :: r).dropWhile isBlank = c :: r := by rw [List.dropWhile_cons, if_neg (by simp [hb])]
      by_cases h32 : out.length = 32
      · rw [SplitO_full hd h32, Ref_cons]
        simp only [hb, h32, Bool.false_and, Option.isNone_none, beq_self_eq_true, Bool.and_self, if_true, Bool.false_eq_true, if_false]
        unfold beginsS
        cases hq : isQuote c with
        | true =>
          obtain ⟨h1, h2, _, _⟩ := quote_byte c hq
          simp [h1, h2, hq]
        | false =>
          cases hbad : isBad c with
          | true => simp [oneS, hbad, hq]
          | false =>
            by_cases h92 : c = 92
            · subst h92
              cases he : escOf r with
              | none => simp [oneS, he, hbad, hq]
              | some x => simp [oneS, he, hbad, hq]
            · simp [oneS, hbad, h92, hq]
      · have e : Ref out none 0 (c :: r) = Ref out (some []) 0 (c :: r) := by
          rw [Ref_cons, Ref_cons]
          have h32' : (out.length == 32) = false := by simpa using h32
          simp only [hb, h32', Bool.false_and, Bool.and_false, Option.isNone_some, Option.getD_none, Option.getD_some, Bool.false_eq_true, if_false]
        rw [e, Ref_next out (f := (c :: r).length + 1) [] (by omega)]
        cases hn : Next (c :: r) [] with
        | error e => rw [SplitO_err hd h32 hn]
        | ok x =>
          obtain ⟨w, r'⟩ := x
          have h1 : r'.length ≤ r.length := next_short' hb hn
          rw [SplitO_ok hd h32 hn]
          exact Ref_split (f := f) (out ++ [w]) (by simp at *; omega) (by simp; omega)

theorem ref_split (l : Str) : refS (l.length + 1) [] none 0 l = split l := by
  rw [split_eq]; exact Ref_split (f := l.length + 1) [] (by omega) (by simp)
end Go.Proofs.Ytlcimhchkbaieaa
