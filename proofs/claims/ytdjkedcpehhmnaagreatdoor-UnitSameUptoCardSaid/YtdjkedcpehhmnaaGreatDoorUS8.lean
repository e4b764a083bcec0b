import Derived.Lib.Atoi
import Derived.Shelf.Abstract
import Derived.Lib.IndexMore
import Derived.Test.YtdjkedcpehhmnaaGreatDoorUS3
import Derived.Test.YtdjkedcpehhmnaaGreatDoorUS6
import Derived.Test.YtdjkedcpehhmnaaGreatDoorUS7
namespace Go.Proofs.YtdjkedcpehhmnaaGreatDoor
set_option linter.unusedVariables false
set_option linter.unusedSimpArgs false
def decF (acc : Nat) (l : Str) : Nat := l.foldl (fun n c => n * 10 + (c.toNat - 48)) acc
def decS (l : Str) : Nat := decF 0 l
theorem isDigit_nat (c : UInt8) : isDigit c = true ↔ 48 ≤ c.toNat ∧ c.toNat ≤ 57 := by
 simp [isDigit, UInt8.le_iff_toNat_le]
theorem decFrom_digits : ∀ (l : Str) (acc : Nat), l.all isDigit = true → Go.Lib.decFrom acc l = some (decF acc l)
 | [], acc, _ => rfl
 | c :: t, acc, h => by
  simp only [List.all_cons, Bool.and_eq_true] at h
  have h1 := (isDigit_nat c).1 h.1
  rw [Go.Lib.decFrom, Go.Lib.digitVal, if_pos h1]
  exact decFrom_digits t _ h.2
theorem atoi_digits (l : Str) (h0 : l ≠ []) (h : l.all isDigit = true) : Go.Lib.atoi l = some ((decS l : Nat) : Int) := by
 cases l with
 | nil => exact absurd rfl h0
 | cons c t =>
  have hc := (isDigit_nat c).1 (by simp only [List.all_cons, Bool.and_eq_true] at h; exact h.1)
  have h1 : (c == 45) = false := by
   rw [beq_eq_false_iff_ne]; intro e; subst e; revert hc; decide
  have h2 : (c == 43) = false := by
   rw [beq_eq_false_iff_ne]; intro e; subst e; revert hc; decide
  unfold Go.Lib.atoi
  simp only [h1, h2]
  have h3 := decFrom_digits (c :: t) 0 h
  unfold Go.Lib.decNat
  rw [if_neg (by simp), h3]
  rfl
theorem decF_lt : ∀ (l : Str) (acc : Nat), l.all isDigit = true → decF acc l < (acc + 1) * 10 ^ l.length
 | [], acc, _ => by simp [decF]
 | c :: t, acc, h => by
  simp only [List.all_cons, Bool.and_eq_true] at h
  have h1 := (isDigit_nat c).1 h.1
  have ih := decF_lt t (acc * 10 + (c.toNat - 48)) h.2
  have e : decF acc (c :: t) = decF (acc * 10 + (c.toNat - 48)) t := rfl
  rw [e, List.length_cons, Nat.pow_succ]
  refine Nat.lt_of_lt_of_le ih ?_
  rw [Nat.mul_comm (10 ^ t.length) 10, ← Nat.mul_assoc]
  exact Nat.mul_le_mul_right _ (by omega)
theorem decS_lt (l : Str) (h : l.all isDigit = true) (n : Nat) (hn : l.length ≤ n) : decS l < 10 ^ n := by
 have := decF_lt l 0 h
 rw [Nat.zero_add, Nat.one_mul] at this
 exact Nat.lt_of_lt_of_le this (Nat.pow_le_pow_right (by decide) hn)
open Go Go.RowKit
set_option maxRecDepth 100000
def longB (s : Str) (n : Int) (p : UInt8 → Bool) : Bool := !s.isEmpty && decide ((s.length : Int) ≤ n) && s.all p
set_option maxHeartbeats 400000 in
theorem long_any (s : ByteArray) (n : Int) (f : FuncId) (fr cap : Array Value) (p : UInt8 → Bool) (b : Bool) (w : World) (h63 : s.size ≤ 9223372036854775807)
  (HE : ∀ args w, (callFunc f args).run Tryz.prog w = .ok (.enter f args) w)
  (H : ∀ c : UInt8, Calls Tryz.prog f (fr.push (.int .u8 c.toNat) ++ cap) w fun e w' => e = .returned (.bool (p c)) ∧ w = w') (hb : longB s.data.toList n p = b) :
  Calls Tryz.prog 129 #[.string s, .int .i64 n, .func (.func f) fr cap] w fun e w' => e = .returned (.bool b) ∧ w = w' := by
 by_cases h0 : s.size = 0
 ·have := str_nil h0
  subst this
  have : b = false := hb.symm
  subst this
  clear hb h0
  have HH := h_ H; clear H
  go_enter Tryz.func129, Tryz.ntmps129
  go_wp2
  go_ret
  exact ⟨rfl, rfl⟩
 ·obtain ⟨n1, n2, n3, n4⟩ := str_ne h0
  have hne : s.data.toList.isEmpty = false := by rw [← ByteArray.toList_eq]; exact n1
  have hlen : s.data.toList.length = s.size := by simp
  unfold longB at hb
  rw [hne, hlen] at hb
  clear hne hlen
  by_cases hn : (s.size : Int) ≤ n
  ·have hd : decide ((s.size : Int) ≤ n) = true := by simpa using hn
   rw [hd] at hb
   simp only [Bool.not_false, Bool.true_and] at hb
   have HA := h_ (all_b s f fr cap p b w h63 HE H hb)
   clear hb H HE
   go_enter Tryz.func129, Tryz.ntmps129
   go_wp2_with (go_at_call 119; refine HA.out.mono ?_; rintro e w' ⟨rfl, rfl⟩)
   go_ret
   exact ⟨rfl, rfl⟩
  ·have hd : decide ((s.size : Int) ≤ n) = false := by simpa using hn
   rw [hd] at hb
   have : b = false := hb.symm
   subst this
   clear hb H HE
   go_enter Tryz.func129, Tryz.ntmps129
   go_wp2
   go_ret
   exact ⟨rfl, rfl⟩
def secS (u : Str) : Int :=
 if u = [] then 1 else
 if u = [115] then 1 else
 if u = [115, 101, 99] then 1 else
 if u = [109] then 60 else
 if u = [109, 105, 110] then 60 else
 if u = [104] then 3600 else
 if u = [104, 114] then 3600 else
 if u = [100] then 86400 else
 if u = [100, 97, 121] then 86400 else
 if u = [119] then 604800 else
 if u = [119, 101, 101, 107] then 604800 else
 0
theorem secS_le (u : Str) : 0 ≤ secS u ∧ secS u ≤ 604800 := by
 unfold secS
 repeat' split
 all_goals decide
def wrdS (s : Str) : Int × Bool :=
 if (s.takeWhile isDigit).length < 1 ∨ 10 < (s.takeWhile isDigit).length ∨ secS (s.drop (s.takeWhile isDigit).length) = 0 then (0, false)
 else (((decS (s.take (s.takeWhile isDigit).length) : Nat) : Int) * secS (s.drop (s.takeWhile isDigit).length), true)
theorem takeWhile_len {p : UInt8 → Bool} : ∀ l : Str, (l.takeWhile p).length ≤ l.length
 | [] => by simp
 | c :: t => by
  rw [List.takeWhile_cons]
  split
  ·have := takeWhile_len (p := p) t; simp; omega
  ·simp
theorem takeWhile_at (p : UInt8 → Bool) : ∀ (l : Str) (k : Nat) (h : k < l.length), k ≤ (l.takeWhile p).length → p l[k] = decide (k < (l.takeWhile p).length)
 | c :: t, 0, h, _ => by
  rw [List.takeWhile_cons]
  cases hp : p c with
  | true => simp [hp]
  | false => simp [hp]
 | c :: t, k + 1, h, hk => by
  rw [List.takeWhile_cons] at hk ⊢
  cases hp : p c with
  | true =>
   rw [hp] at hk
   simp only [if_true, List.length_cons] at hk
   have := takeWhile_at p t k (by simpa using h) (by omega)
   simp only [List.getElem_cons_succ, if_true, List.length_cons]
   rw [this, decide_eq_decide]; omega
  | false =>
   rw [hp] at hk
   simp at hk
theorem takeWhile_all (p : UInt8 → Bool) : ∀ l : Str, (l.take (l.takeWhile p).length).all p = true
 | [] => rfl
 | c :: t => by
  rw [List.takeWhile_cons]
  cases hp : p c with
  | true => simp [hp]; intro x hx; have := takeWhile_all p t; rw [List.all_eq_true] at this; exact this x hx
  | false => simp
theorem wrdS_nonneg (s : Str) : 0 ≤ (wrdS s).1 ∧ (wrdS s).1 ≤ 10000000000 * 604800 := by
 unfold wrdS
 split
 ·simp
 ·rename_i h
  have h1 := secS_le (s.drop (s.takeWhile isDigit).length)
  have h2 := decS_lt _ (takeWhile_all isDigit s) 10 (by rw [List.length_take]; omega)
  refine ⟨Int.mul_nonneg (by omega) h1.1, Int.mul_le_mul (by omega) h1.2 h1.1 (by omega)⟩
def spanL : List Str → Int → Option Int
 | [], n => some n
 | x :: t, n => if (wrdS x).2 = false then none else if n + (wrdS x).1 > 6311433600 then none else spanL t (n + (wrdS x).1)
def spanS (s : Str) : Int × Bool :=
 if s = [105, 110, 102, 105, 110, 105, 116, 121] then (1099511627776, true)
 else match spanL (blanksS s) 0 with
  | none => (0, false)
  | some n => (n, decide (0 < (blanksS s).length))
open Go
structure PartS where
 from_ : Int
 to_ : Int
 step : Int
deriving DecidableEq
def numC (s : Str) : Int × Bool := if longB s 4 isDigit = true then ((decS s : Nat), true) else (0, false)
def bodyS (b : Str) (st : Int) : Option PartS :=
 if b = [42] then some ⟨-1, -1, st⟩
 else if (numC (Lib.cut b [46, 46]).1).2 = false then none
 else if (Lib.cut b [46, 46]).2.2 = true then (if (numC (Lib.cut b [46, 46]).2.1).2 = true then some ⟨(numC (Lib.cut b [46, 46]).1).1, (numC (Lib.cut b [46, 46]).2.1).1, st⟩ else none)
 else some ⟨(numC (Lib.cut b [46, 46]).1).1, -1, st⟩
def partS (s : Str) : Option PartS :=
 if (Lib.cut s [47]).2.2 = true then
  (if (numC (Lib.cut s [47]).2.1).2 = false ∨ (numC (Lib.cut s [47]).2.1).1 = 0 then none else bodyS (Lib.cut s [47]).1 (numC (Lib.cut s [47]).2.1).1)
 else bodyS (Lib.cut s [47]).1 0
def partsL : List Str → Option (List PartS)
 | [] => some []
 | x :: t => match partS x with
  | none => none
  | some p => (partsL t).map fun r => p :: r
def ptsS (s : Str) : Option (List PartS) := partsL (splitC 44 s)
end Go.Proofs.YtdjkedcpehhmnaaGreatDoor
