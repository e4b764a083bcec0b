import Derived.Lib.Bytealg
import Derived.Lib.SplitLaws
import Derived.Lib.IndexMore
import Derived.Test.YtdjkedcpehhmnaaGreatDoorUS3
namespace Go.Proofs.YtdjkedcpehhmnaaGreatDoor
open Go
set_option linter.unusedVariables false
set_option linter.unusedSimpArgs false
def consHd (x : UInt8) : List Str → List Str
 | [] => [[x]]
 | h :: r => (x :: h) :: r
def splitC (c : UInt8) : Str → List Str
 | [] => [[]]
 | x :: t => if x = c then [] :: splitC c t else consHd x (splitC c t)
theorem splitC_ne (c : UInt8) : ∀ s : Str, splitC c s ≠ []
 | [] => by simp [splitC]
 | x :: t => by
  unfold splitC
  split
  ·simp
  ·unfold consHd; split <;> simp
theorem splitC_app (c : UInt8) : ∀ (a b : Str), (∀ x ∈ a, x ≠ c) → splitC c (a ++ c :: b) = a :: splitC c b
 | [], b, _ => by simp [splitC]
 | x :: t, b, h => by
  rw [List.cons_append, splitC, if_neg (h x (by simp)), splitC_app c t b (fun y hy => h y (by simp [hy]))]
  rfl
theorem splitC_one (c : UInt8) : ∀ (a : Str), (∀ x ∈ a, x ≠ c) → splitC c a = [a]
 | [], _ => rfl
 | x :: t, h => by
  rw [splitC, if_neg (h x (by simp)), splitC_one c t (fun y hy => h y (by simp [hy]))]
  rfl
theorem ib_cases (c : UInt8) : ∀ s : Str, (Lib.indexByte s c = -1 ∧ ∀ x ∈ s, x ≠ c) ∨ ∃ (i : Nat) (a b : Str), Lib.indexByte s c = i ∧ s = a ++ c :: b ∧ a.length = i ∧ ∀ x ∈ a, x ≠ c
 | [] => .inl ⟨rfl, by simp⟩
 | x :: t => by
  by_cases hx : x = c
  ·subst hx
   exact .inr ⟨0, [], t, by simp [Lib.indexByte], rfl, rfl, by simp⟩
  ·rcases ib_cases c t with ⟨h1, h2⟩ | ⟨i, a, b, h1, h2, h3, h4⟩
   ·exact .inl ⟨by simp [Lib.indexByte, hx, h1], by
     intro y hy
     rcases List.mem_cons.1 hy with rfl | hy
     ·exact hx
     ·exact h2 y hy⟩
   ·refine .inr ⟨i + 1, x :: a, b, ?_, by rw [h2]; rfl, by simp [h3], ?_⟩
    ·have hne : ¬ ((i : Int) = -1) := by omega
     simp [Lib.indexByte, hx, h1, hne]
    ·intro y hy
     rcases List.mem_cons.1 hy with rfl | hy
     ·exact hx
     ·exact h4 y hy
theorem splitC_mem (c : UInt8) : ∀ (s : Str) x, x ∈ splitC c s → x.length ≤ s.length
 | [], x, h => by simp [splitC] at h; subst h; simp
 | y :: t, x, h => by
  unfold splitC at h
  split at h
  ·rcases List.mem_cons.1 h with rfl | h
   ·simp
   ·have := splitC_mem c t x h; simp; omega
  ·have ih := splitC_mem c t
   cases hs : splitC c t with
   | nil => exact absurd hs (splitC_ne c t)
   | cons a r =>
    rw [hs] at h ih
    simp only [consHd] at h
    rcases List.mem_cons.1 h with rfl | h
    ·have := ih a (by simp); simp; omega
    ·have := ih x (by simp [h]); simp; omega
theorem splitC_len (c : UInt8) : ∀ (s : Str), (splitC c s).length ≤ s.length + 1
 | [] => by simp [splitC]
 | y :: t => by
  have ih := splitC_len c t
  unfold splitC
  split
  ·simp; omega
  ·cases hs : splitC c t with
   | nil => exact absurd hs (splitC_ne c t)
   | cons a r => rw [hs] at ih; simp [consHd] at ih ⊢; omega
abbrev weekS : List Str := [[77, 111, 110], [84, 117, 101], [87, 101, 100], [84, 104, 117], [70, 114, 105], [83, 97, 116], [83, 117, 110]]
def dayFrom : List Str → Str → Nat → Int
 | [], _, _ => -1
 | d :: r, s, i => if d = s then (i : Int) else dayFrom r s (i + 1)
def dayIx (s : Str) : Int := dayFrom weekS s 0
theorem dayFrom_cases : ∀ (l : List Str) (s : Str) (i : Nat), dayFrom l s i = -1 ∨ ∃ n : Nat, dayFrom l s i = n ∧ n < i + l.length
 | [], s, i => .inl rfl
 | d :: r, s, i => by
  unfold dayFrom
  split
  ·exact .inr ⟨i, rfl, by simp⟩
  ·rcases dayFrom_cases r s (i + 1) with h | ⟨n, h1, h2⟩
   ·exact .inl h
   ·exact .inr ⟨n, h1, by simp; omega⟩
theorem dayIx_cases (s : Str) : dayIx s = -1 ∨ ∃ n : Nat, dayIx s = n ∧ n < 7 := by
 rcases dayFrom_cases weekS s 0 with h | ⟨n, h1, h2⟩
 ·exact .inl h
 ·exact .inr ⟨n, h1, by simpa using h2⟩
def dayRange (w : Str) : Option (Nat × Nat) :=
 if dayIx (Lib.cut w [46, 46]).1 < 0 ∨ dayIx (if (Lib.cut w [46, 46]).2.2 = true then (Lib.cut w [46, 46]).2.1 else (Lib.cut w [46, 46]).1) < dayIx (Lib.cut w [46, 46]).1 then none
 else some ((dayIx (Lib.cut w [46, 46]).1).toNat, (dayIx (if (Lib.cut w [46, 46]).2.2 = true then (Lib.cut w [46, 46]).2.1 else (Lib.cut w [46, 46]).1)).toNat)
def markN : List Bool → Nat → Nat → List Bool
 | m, _, 0 => m
 | m, d, n + 1 => markN (m.set (d + 1) true) (d + 1) n
theorem markN_len : ∀ (n d : Nat) (m : List Bool), (markN m d n).length = m.length
 | 0, d, m => rfl
 | n + 1, d, m => by rw [markN, markN_len n]; simp
def workL : List Str → List Bool → Option (List Bool)
 | [], m => some m
 | w :: t, m => match dayRange w with
  | none => none
  | some (f, l) => workL t (markN m f (l + 1 - f))
theorem workL_len : ∀ (l : List Str) (m r : List Bool), workL l m = some r → r.length = m.length
 | [], m, r, h => by simp [workL] at h; subst h; rfl
 | w :: t, m, r, h => by
  rw [workL] at h
  cases hd : dayRange w with
  | none => rw [hd] at h; simp at h
  | some p =>
   rw [hd] at h
   simp only at h
   rw [workL_len t _ r h, markN_len]
theorem workL_snoc : ∀ (l : List Str) (x : Str) (m : List Bool), workL (l ++ [x]) m = match workL l m with
  | none => none
  | some r => match dayRange x with
   | none => none
   | some (f, k) => some (markN r f (k + 1 - f))
 | [], x, m => by
  simp only [List.nil_append, workL]
 | w :: t, x, m => by
  rw [List.cons_append, workL, workL]
  cases dayRange w with
  | none => rfl
  | some p => exact workL_snoc t x _
theorem workL_none : ∀ (l k : List Str) (m : List Bool), workL l m = none → workL (l ++ k) m = none
 | [], k, m, h => by simp [workL] at h
 | w :: t, k, m, h => by
  rw [List.cons_append, workL]
  rw [workL] at h
  cases hd : dayRange w with
  | none => rfl
  | some p =>
   rw [hd] at h
   exact workL_none t k _ h
def noDays : List Bool := List.replicate 8 false
def daysOf (m : List Bool) : List Int := ((List.range 8).filter fun i => m.getD i false).map fun (i : Nat) => (i : Int)
def workS (s : Str) : Option (List Int) := (workL (splitC 44 s) noDays).map daysOf
def daysTo (m : List Bool) (k : Nat) : List Int := ((List.range k).filter fun i => m.getD i false).map fun (i : Nat) => (i : Int)
theorem daysTo_succ (m : List Bool) (k : Nat) : daysTo m (k + 1) = if m.getD k false = true then daysTo m k ++ [(k : Int)] else daysTo m k := by
 unfold daysTo
 rw [List.range_succ, List.filter_append, List.map_append]
 by_cases h : m.getD k false = true
 ·rw [if_pos h]; simp [List.getD_eq_getElem?_getD] at h ⊢; simp [h]
 ·rw [if_neg h]; simp [List.getD_eq_getElem?_getD] at h ⊢; simp [h]
theorem daysTo_len (m : List Bool) (k : Nat) : (daysTo m k).length ≤ k := by
 unfold daysTo
 rw [List.length_map]
 exact Nat.le_trans (List.length_filter_le _ _) (by simp)
end Go.Proofs.YtdjkedcpehhmnaaGreatDoor
