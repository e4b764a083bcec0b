/-
  Plain functions on lists of bytes: what package lines (Parse, May, Print) computes. No program in sight.
-/
import Derived.Test.YtdpnahojhmkemaaGreatDoorWordsS
namespace Go.Proofs.YtdpnahojhmkemaaGreatDoor

def isLetter (c : UInt8) : Bool := (97 ≤ c && c ≤ 122) || (65 ≤ c && c ≤ 90)
def isDigit (c : UInt8) : Bool := 48 ≤ c && c ≤ 57
/-- Without blanks at its ends. -/
def trimS (l : Str) : Str := (l.reverse.dropWhile isBlank).reverse.dropWhile isBlank
def isRemark (l : Str) : Bool := match trimS l with
  | c :: _ => c == 35 || c == 59
  | [] => false
def isVoid (l : Str) : Bool := (trimS l).isEmpty
def goodS (l : Str) : Bool := l.all fun c => !isBad c
def sectB (l : Str) : Bool := !l.isEmpty && decide (l.length ≤ 20) && l.all isLetter
def keyB (l : Str) : Bool := !l.isEmpty && decide (l.length ≤ 40) && l.all fun c => isLetter c || isDigit c

/-- The rows of a text: what stands between bytes 10. -/
def rowsS : Str → List Str
  | [] => [[]]
  | c :: r => if c == 10 then [] :: rowsS r else match rowsS r with
    | [] => [[c]]
    | x :: xs => (c :: x) :: xs

/-- Does it end in a backslash? -/
def goesOn (s : Str) : Bool := s.getLast? == some 92

/-- A line with those that it goes on with; what is left; how many were read. -/
def joinS : Str → List Str → Nat → Str × List Str × Nat
  | s, [], n => if goesOn s then (s.dropLast ++ [32], [], n) else (s, [], n)
  | s, x :: r, n => if goesOn s then (if isRemark x then joinS s r (n + 1) else joinS (s.dropLast ++ [32] ++ x) r (n + 1)) else (s, x :: r, n)

/-- All whole lines, with their numbers. The first argument: fuel. -/
def wholesS : Nat → List Str → Nat → List (Str × Nat)
  | 0, _, _ => []
  | _ + 1, [], _ => []
  | f + 1, x :: r, n =>
    if isRemark x || isVoid x then wholesS f r (n + 1)
    else ((joinS x r (n + 1)).1, n + 1) :: wholesS f (joinS x r (n + 1)).2.1 (joinS x r (n + 1)).2.2

inductive Says where
  | err (c : Nat)
  | nothing
  | sect (name : Str)
  | pair (k v : Str)

/-- What stands ahead of the first = and behind it. -/
def cutEq : Str → Option (Str × Str)
  | [] => none
  | c :: r => if c == 61 then some ([], r) else match cutEq r with
    | some (a, b) => some (c :: a, b)
    | none => none

/-- What one whole line says; sec: the section. -/
def saysS (sec s : Str) : Says :=
  if goodS s then
    if s.length ≤ 400 then
      match trimS s with
      | [] => .nothing
      | c :: t =>
        if c == 91 then
          (if t.getLast? == some 93 && sectB t.dropLast then .sect t.dropLast else .err 10)
        else match cutEq (c :: t) with
          | none => .err 9
          | some (k, v) => if keyB (trimS k) then (if sec.isEmpty then .err 10 else .pair (trimS k) (trimS v)) else .err 9
    else .err 2
  else .err 1

structure Ln where
  sec : Str
  key : Str
  val : Str
  at_ : Int
deriving DecidableEq

/-- Whole lines taken in: the lines that they are, or what is wrong first, and where. -/
def readS : List (Str × Nat) → Str → List Ln → Except (Nat × Nat) (List Ln)
  | [], _, out => .ok out
  | (s, n) :: r, sec, out => match saysS sec s with
    | .err c => .error (c, n)
    | .nothing => readS r sec out
    | .sect name => readS r name out
    | .pair k v => readS r sec (out ++ [⟨sec, k, v, (n : Int)⟩])

def parseR (rows : List Str) : Except (Nat × Nat) (List Ln) := readS (wholesS (rows.length + 1) rows 0) [] []
def parseS (t : Str) : Except (Nat × Nat) (List Ln) := if t.length ≤ 20000 then parseR (rowsS t) else .error (2, 0)

/-- May a line be written? -/
def mayLn (l : Ln) : Bool := sectB l.sec && keyB l.key && goodS l.val && (trimS l.val == l.val) && !goesOn l.val && decide (l.key.length + 1 + l.val.length ≤ 400)

def headS (sec : Str) : Str := 91 :: sec ++ [93, 10]
def pairS (l : Ln) : Str := l.key ++ 61 :: l.val ++ [10]
/-- Lines as they are written, behind one of the section sec (none: at the beginning). -/
def textS : Option Str → List Ln → Str
  | _, [] => []
  | none, l :: r => headS l.sec ++ pairS l ++ textS (some l.sec) r
  | some s, l :: r => (if l.sec = s then [] else 10 :: headS l.sec) ++ pairS l ++ textS (some l.sec) r
def writeS (l : List Ln) : Str := textS none l
def mayS (l : List Ln) : Bool := l.all mayLn && decide ((writeS l).length ≤ 20000)
def printS (l : List Ln) : Str := if mayS l then writeS l else []
/-- Alike, but for numbers. -/
def sameLn (a b : Ln) : Prop := a.sec = b.sec ∧ a.key = b.key ∧ a.val = b.val
end Go.Proofs.YtdpnahojhmkemaaGreatDoor
