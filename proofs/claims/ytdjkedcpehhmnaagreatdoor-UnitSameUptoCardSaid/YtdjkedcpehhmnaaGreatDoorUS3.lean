import Derived.Lib.FieldsP
import Derived.Laws.RangeAny
namespace Go.Proofs.YtdjkedcpehhmnaaGreatDoor
abbrev Str := List UInt8
def hexOf (c : UInt8) : Option Nat :=
 if 48 ≤ c ∧ c ≤ 57 then some (c.toNat - 48) else if 97 ≤ c ∧ c ≤ 102 then some (c.toNat - 87) else none
def twoOf : Str → Option UInt8
 | a :: b :: _ => match hexOf a, hexOf b with
  | some x, some y => some (UInt8.ofNat (16 * x + y))
  | _, _ => none
 | _ => none
def isBad (c : UInt8) : Bool := (c < 32 && c != 9) || c == 127
def isBlank (c : UInt8) : Bool := c == 32 || c == 9
def isQuote (c : UInt8) : Bool := c == 39 || c == 34
def escOf : Str → Option (UInt8 × Nat)
 | c :: r =>
  if c == 92 || c == 34 || c == 39 then some (c, 1)
  else if c == 110 then some (10, 1)
  else if c == 116 then some (9, 1)
  else if c == 115 then some (32, 1)
  else if c == 120 then
   match twoOf r with
   | some d => if d = 0 then none else some (d, 3)
   | none => none
  else none
 | [] => none
def oneS : Str → Except Nat (UInt8 × Nat)
 | [] => .error 0
 | c :: r =>
  if isBad c then .error 1
  else if c = 92 then
   match escOf r with
   | some (d, n) => .ok (d, n + 1)
   | none => .error 13
  else .ok (c, 1)
def quotedS (q : UInt8) : Nat → Str → Str → Except Nat (Str × Str)
 | 0, _, _ => .error 0
 | _ + 1, [], _ => .error 13
 | f + 1, c :: r, bs =>
  if c = q then .ok (bs, r)
  else match oneS (c :: r) with
   | .error e => .error e
   | .ok (d, n) => quotedS q f ((c :: r).drop n) (bs ++ [d])
def nextS : Nat → Str → Str → Except Nat (Str × Str)
 | 0, _, _ => .error 0
 | _ + 1, [], bs => .ok (bs, [])
 | f + 1, c :: r, bs =>
  if isBlank c then .ok (bs, c :: r)
  else if isQuote c then
   match quotedS c (r.length + 1) r bs with
   | .error e => .error e
   | .ok (bs', r') => nextS f r' bs'
  else match oneS (c :: r) with
   | .error e => .error e
   | .ok (d, n) => nextS f ((c :: r).drop n) (bs ++ [d])
def beginsS (l : Str) : Nat :=
 match l with
 | [] => 2
 | c :: r => if isQuote c then 2 else match oneS (c :: r) with
  | .error e => e
  | .ok _ => 2
def splitS : Nat → Str → List Str → Except Nat (List Str)
 | 0, _, _ => .error 0
 | f + 1, l, out =>
  match l.dropWhile isBlank with
  | [] => .ok out
  | c :: r =>
   if out.length = 32 then .error (beginsS (c :: r))
   else match nextS (r.length + 2) (c :: r) [] with
    | .error e => .error e
    | .ok (w, r') => splitS f r' (out ++ [w])
def split (l : Str) : Except Nat (List Str) := splitS (l.length + 1) l []
def plainB (w : Str) : Bool :=
 match w with
 | [] => false
 | c :: _ => c != 45 && w.all fun c => 32 < c && c < 127 && c != 39 && c != 34 && c != 92
def hexDigit (n : Nat) : UInt8 := if n < 10 then UInt8.ofNat (48 + n) else UInt8.ofNat (87 + n)
def hexByte (c : UInt8) : Str := [hexDigit (c.toNat / 16), hexDigit (c.toNat % 16)]
def quoteByte (c : UInt8) : Str :=
 if c == 34 || c == 92 then [92, c] else if 32 ≤ c && c < 127 then [c] else 92 :: 120 :: hexByte c
def quoteS (w : Str) : Str := 34 :: (w.flatMap quoteByte ++ [34])
def wordS (w : Str) : Str := if plainB w then w else quoteS w
def joinBy (sep : Str) : List Str → Str
 | [] => []
 | [a] => a
 | a :: b :: r => a ++ sep ++ joinBy sep (b :: r)
def join (l : List Str) : Str :=
 if 32 < l.length then [] else if l.any (fun w => w.contains 0) then [] else joinBy [32] (l.map wordS)
theorem u8_forall {p : UInt8 → Bool} (h : (List.range 256).all (fun n => p (UInt8.ofNat n)) = true) : ∀ c, p c = true := by
 intro c
 have h' := List.all_eq_true.1 h c.toNat (List.mem_range.2 (UInt8.toNat_lt c))
 rwa [UInt8.ofNat_toNat] at h'
def isLetter (c : UInt8) : Bool := (97 ≤ c && c ≤ 122) || (65 ≤ c && c ≤ 90)
def isDigit (c : UInt8) : Bool := 48 ≤ c && c ≤ 57
structure Ln where
 sec : Str
 key : Str
 val : Str
 at_ : Int
deriving DecidableEq
open Go
set_option linter.unusedVariables false
set_option linter.unusedSimpArgs false
def fldS : Str → Str → List Str
 | [], cur => if cur.isEmpty then [] else [cur]
 | c :: t, cur => if c = 32 then (if cur.isEmpty then fldS t [] else cur :: fldS t []) else fldS t (cur ++ [c])
def blanksS (s : Str) : List Str := fldS s []
theorem fldS_skip : ∀ (t u x : Str), (∀ c ∈ t, c ≠ 32) → fldS (t ++ u) x = fldS u (x ++ t)
 | [], u, x, _ => by simp
 | c :: t, u, x, h => by
  have hc : c ≠ 32 := h c (by simp)
  rw [List.cons_append, fldS, if_neg hc, fldS_skip t u (x ++ [c]) (fun d hd => h d (by simp [hd]))]
  simp
theorem high_ne (c : UInt8) (h : c.toNat / 64 = 2) : c ≠ 32 := by
 rintro rfl
 simp at h
theorem decode_solid (s : ByteArray) (pos : Nat) (h : pos < s.size) (h32 : s.get! pos ≠ 32) :
  (Utf8.decode s pos).1 ≠ 32 ∧ 1 ≤ (Utf8.decode s pos).2 ∧ pos + (Utf8.decode s pos).2 ≤ s.size ∧ ∀ k, k < (Utf8.decode s pos).2 → s.get! (pos + k) ≠ 32 := by
 have h0 : s.get! (pos + 0) = s[pos]'h := get_at s pos h
 simp only [Nat.add_zero] at h0
 rw [h0] at h32
 by_cases ha : (s[pos]'h).toNat < 128
 ·rw [decode_ascii s pos h ha]
  refine ⟨fun hh => h32 (UInt8.toNat_inj.1 hh), Nat.le_refl _, by simp; omega, fun k hk => ?_⟩
  obtain rfl : k = 0 := by simpa using hk
  rw [Nat.add_zero, h0]; exact h32
 ·have hh := decode_high s pos h (by omega)
  refine ⟨by omega, hh.2, ?_, ?_⟩
  ·have h0' : (s.get! (pos + 0)) = s[pos]'h := get_at s pos h
   simp only [Utf8.decode, h0', ha, if_false]
   repeat' split
   all_goals simp_all [Utf8.runeError]
   all_goals omega
  ·have h0' : (s.get! (pos + 0)) = s[pos]'h := get_at s pos h
   have key4 : (2 ≤ (Utf8.decode s pos).2 → (s.get! (pos + 1)).toNat / 64 = 2) ∧ (3 ≤ (Utf8.decode s pos).2 → (s.get! (pos + 2)).toNat / 64 = 2) ∧ (4 ≤ (Utf8.decode s pos).2 → (s.get! (pos + 3)).toNat / 64 = 2) ∧ (Utf8.decode s pos).2 ≤ 4 := by
    clear hh
    simp only [Utf8.decode, h0', ha, if_false]
    repeat' split
    all_goals simp_all [Utf8.runeError]
   have key : ∀ k, k < (Utf8.decode s pos).2 → k = 0 ∨ (s.get! (pos + k)).toNat / 64 = 2 := by
    intro k hk
    obtain ⟨q1, q2, q3, q4⟩ := key4
    rcases (show k = 0 ∨ k = 1 ∨ k = 2 ∨ k = 3 by omega) with rfl | rfl | rfl | rfl
    ·exact .inl rfl
    ·exact .inr (q1 (by omega))
    ·exact .inr (q2 (by omega))
    ·exact .inr (q3 (by omega))
   intro k hk
   rcases key k hk with rfl | h2
   ·rw [Nat.add_zero, h0]; exact h32
   ·exact high_ne _ h2
def isB (n : Nat) : Bool := n == 32
theorem spans_fld (s : ByteArray) : ∀ (f pos : Nat) (st : Option Nat) (acc : List (Nat × Nat)), s.size - pos ≤ f → pos ≤ s.size → (∀ a, st = some a → a < pos) →
  (Lib.closeSpans s (Lib.spansFromP isB s f pos st acc)).map (fun x => (s.extract x.1 x.2).data.toList) =
   acc.map (fun x => (s.extract x.1 x.2).data.toList) ++ fldS (s.data.toList.drop pos) (match st with | none => [] | some a => (s.data.toList.take pos).drop a)
 | 0, pos, st, acc, hf, hp, hst => by
  have hpe : pos = s.size := by omega
  subst hpe
  have hd : s.data.toList.drop s.size = [] := by simp
  rw [hd]
  have ht : s.data.toList.take s.size = s.data.toList := List.take_of_length_le (by simp)
  rw [ht]
  cases st with
  | none => simp [Lib.spansFromP, Lib.closeSpans, fldS]
  | some a =>
   have hne : (s.data.toList.drop a) ≠ [] := by
    intro hh
    have := congrArg List.length hh
    have ha := hst a rfl
    simp at this; omega
   have hx : (s.extract a s.size).data.toList = s.data.toList.drop a := by
    rw [ByteArray.data_extract]
    simp
    exact List.take_of_length_le (by simp)
   have hlast : fldS [] (s.data.toList.drop a) = [s.data.toList.drop a] := by simp [fldS, hne]
   simp only [Lib.spansFromP, Lib.closeSpans, List.map_append, List.map_cons, List.map_nil, hx, hlast]
 | f + 1, pos, st, acc, hf, hp, hst => by
  by_cases hlt : pos < s.size
  ·unfold Lib.spansFromP
   rw [if_pos hlt]
   have hlen : pos < s.data.toList.length := by simpa using hlt
   have hg : s.get! pos = s.data.toList[pos] := by
    show s.get! (pos + 0) = _
    rw [get_at s pos hlt]
    simp
    rfl
   have hdc : s.data.toList.drop pos = s.data.toList[pos] :: s.data.toList.drop (pos + 1) := List.drop_eq_getElem_cons hlen
   by_cases h32 : s.get! pos = 32
   ·have hdec : Utf8.decode s pos = (32, 1) := by
     have h0 : s.get! (pos + 0) = s[pos]'hlt := get_at s pos hlt
     simp only [Nat.add_zero] at h0
     rw [h0] at h32
     have hd := decode_ascii s pos hlt (by rw [h32]; decide)
     rw [hd, h32]; rfl
    rw [hdec]
    rw [if_pos (by rfl)]
    rw [hdc, ← hg, h32, fldS, if_pos rfl]
    cases st with
    | none =>
     rw [spans_fld s f (pos + 1) none acc (by omega) (by omega) (by simp)]
     simp
    | some a =>
     have ha := hst a rfl
     have hne : ((s.data.toList.take pos).drop a) ≠ [] := by
      intro hh
      have := congrArg List.length hh
      simp at this; omega
     simp only
     rw [spans_fld s f (pos + 1) none (acc ++ [(a, pos)]) (by omega) (by omega) (by simp)]
     have hx : (s.extract a pos).data.toList = (s.data.toList.take pos).drop a := by
      rw [ByteArray.data_extract]
      simp [List.drop_take]
     have hne2 : ((s.data.toList.take pos).drop a).isEmpty = false := by simpa using hne
     rw [hne2]
     simp only [List.map_append, List.map_cons, List.map_nil, hx, List.append_assoc, List.cons_append, List.nil_append]
     rfl
   ·obtain ⟨h1, h2, h3, h4⟩ := decode_solid s pos hlt h32
    generalize hwd : (Utf8.decode s pos).2 = wd at *
    rw [if_neg (by simpa [isB] using h1)]
    have hsplit : s.data.toList.drop pos = (s.data.toList.drop pos).take wd ++ s.data.toList.drop (pos + wd) := by
     rw [← List.drop_drop]; exact (List.take_append_drop wd _).symm
    have hall : ∀ c ∈ (s.data.toList.drop pos).take wd, c ≠ 32 := by
     intro c hc
     obtain ⟨i, hi, rfl⟩ := List.getElem_of_mem hc
     have hiw : i < wd := by simp at hi; omega
     have := h4 i hiw
     have hii : pos + i < s.size := by omega
     have hgi : s.get! (pos + i) = s.data.toList[pos + i]'(by simpa using hii) := by
      show s.get! (pos + i + 0) = _
      rw [get_at s (pos + i) hii]
      simp
      rfl
     rw [hgi] at this
     simpa using this
    have hcat : ∀ a, a ≤ pos → (s.data.toList.take pos).drop a ++ (s.data.toList.drop pos).take wd = (s.data.toList.take (pos + wd)).drop a := by
     intro a ha
     rw [List.take_add, List.drop_append_of_le_length (by simp; omega)]
    rw [hsplit, fldS_skip _ _ _ hall]
    cases st with
    | none =>
     simp only
     rw [spans_fld s f (pos + wd) (some pos) acc (by omega) h3 (by intro a ha; cases ha; omega)]
     have := hcat pos (Nat.le_refl _)
     simp only
     rw [← this]
     simp
    | some a =>
     have ha := hst a rfl
     simp only
     rw [spans_fld s f (pos + wd) (some a) acc (by omega) h3 (by intro b hb; cases hb; omega)]
     simp only
     rw [← hcat a (by omega)]
  ·rw [Lib.spansFromP_end isB s (f + 1) pos st acc hlt]
   have := spans_fld s 0 pos st acc (by omega) hp hst
   rw [Lib.spansFromP_end isB s 0 pos st acc hlt] at this
   exact this
theorem fields_blanks (s : ByteArray) : (Lib.goFieldsP isB s).map (fun x => x.data.toList) = blanksS s.data.toList := by
 unfold Lib.goFieldsP Lib.spansOfP
 rw [List.map_map]
 have := spans_fld s s.size 0 none [] (by omega) (by omega) (by simp)
 exact this
end Go.Proofs.YtdjkedcpehhmnaaGreatDoor
