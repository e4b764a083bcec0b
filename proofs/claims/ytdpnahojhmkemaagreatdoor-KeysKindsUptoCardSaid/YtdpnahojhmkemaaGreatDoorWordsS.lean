/-
  Plain functions on lists of bytes: what package words (Split, Join) computes. No program in sight.
-/
namespace Go.Proofs.YtdpnahojhmkemaaGreatDoor
abbrev Str := List UInt8

/-- 0 to 9, a to f. -/
def hexOf (c : UInt8) : Option Nat :=
  if 48 ≤ c ∧ c ≤ 57 then some (c.toNat - 48) else if 97 ≤ c ∧ c ≤ 102 then some (c.toNat - 87) else none

def twoOf : Str → Option UInt8
  | a :: b :: _ => match hexOf a, hexOf b with
    | some x, some y => some (UInt8.ofNat (16 * x + y))
    | _, _ => none
  | _ => none

def isBad (c : UInt8) : Bool := (c < 32 && c != 9) || c == 127
def isBlank (c : UInt8) : Bool := c == 32 || c == 9
def isQuote (c : UInt8) : Bool := c == 39 || c == 34

/-- What stands behind a backslash: the byte, how many bytes it takes (without the backslash). -/
def escOf : Str → Option (UInt8 × Nat)
  | c :: r =>
    if c == 92 || c == 34 || c == 39 then some (c, 1)
    else if c == 110 then some (10, 1)
    else if c == 116 then some (9, 1)
    else if c == 115 then some (32, 1)
    else if c == 120 then
      match twoOf r with
      | some d => if d = 0 then none else some (d, 3)
      | none => none
    else none
  | [] => none

/-- The byte that comes, and how many it takes; or what is wrong with it. -/
def oneS : Str → Except Nat (UInt8 × Nat)
  | [] => .error 0
  | c :: r =>
    if isBad c then .error 1
    else if c = 92 then
      match escOf r with
      | some (d, n) => .ok (d, n + 1)
      | none => .error 13
    else .ok (c, 1)

/-- Inside of quotes: what is taken, how many bytes (the closing quote too). The first argument: fuel. -/
def quotedS (q : UInt8) : Nat → Str → Str → Except Nat (Str × Str)
  | 0, _, _ => .error 0
  | _ + 1, [], _ => .error 13
  | f + 1, c :: r, bs =>
    if c = q then .ok (bs, r)
    else match oneS (c :: r) with
      | .error e => .error e
      | .ok (d, n) => quotedS q f ((c :: r).drop n) (bs ++ [d])

def nextS : Nat → Str → Str → Except Nat (Str × Str)
  | 0, _, _ => .error 0
  | _ + 1, [], bs => .ok (bs, [])
  | f + 1, c :: r, bs =>
    if isBlank c then .ok (bs, c :: r)
    else if isQuote c then
      match quotedS c (r.length + 1) r bs with
      | .error e => .error e
      | .ok (bs', r') => nextS f r' bs'
    else match oneS (c :: r) with
      | .error e => .error e
      | .ok (d, n) => nextS f ((c :: r).drop n) (bs ++ [d])

def beginsS (l : Str) : Nat :=
  match l with
  | [] => 2
  | c :: r => if isQuote c then 2 else match oneS (c :: r) with
    | .error e => e
    | .ok _ => 2

def splitS : Nat → Str → List Str → Except Nat (List Str)
  | 0, _, _ => .error 0
  | f + 1, l, out =>
    match l.dropWhile isBlank with
    | [] => .ok out
    | c :: r =>
      if out.length = 32 then .error (beginsS (c :: r))
      else match nextS (r.length + 2) (c :: r) [] with
        | .error e => .error e
        | .ok (w, r') => splitS f r' (out ++ [w])

/-- words.Split. -/
def split (l : Str) : Except Nat (List Str) := splitS (l.length + 1) l []

def plainB (w : Str) : Bool :=
  match w with
  | [] => false
  | c :: _ => c != 45 && w.all fun c => 32 < c && c < 127 && c != 39 && c != 34 && c != 92

def hexDigit (n : Nat) : UInt8 := if n < 10 then UInt8.ofNat (48 + n) else UInt8.ofNat (87 + n)
def hexByte (c : UInt8) : Str := [hexDigit (c.toNat / 16), hexDigit (c.toNat % 16)]

def quoteByte (c : UInt8) : Str :=
  if c == 34 || c == 92 then [92, c] else if 32 ≤ c && c < 127 then [c] else 92 :: 120 :: hexByte c

def quoteS (w : Str) : Str := 34 :: (w.flatMap quoteByte ++ [34])

def wordS (w : Str) : Str := if plainB w then w else quoteS w

/-- strings.Join by a blank. -/
def joinBy (sep : Str) : List Str → Str
  | [] => []
  | [a] => a
  | a :: b :: r => a ++ sep ++ joinBy sep (b :: r)

/-- words.Join. -/
def join (l : List Str) : Str :=
  if 32 < l.length then [] else if l.any (fun w => w.contains 0) then [] else joinBy [32] (l.map wordS)


/-- A fact on bytes, byte by byte. -/
theorem u8_forall {p : UInt8 → Bool} (h : (List.range 256).all (fun n => p (UInt8.ofNat n)) = true) : ∀ c, p c = true := by
  intro c
  have h' := List.all_eq_true.1 h c.toNat (List.mem_range.2 (UInt8.toNat_lt c))
  rwa [UInt8.ofNat_toNat] at h'

end Go.Proofs.YtdpnahojhmkemaaGreatDoor
