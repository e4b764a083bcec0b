import Derived.Shelf.Abstract
import Derived.Deep.LoopGhost
import Derived.Lib.SmallJoins
import Derived.IntWalk
import Derived.Test.YtdpnahojhmkemaaGreatDoorKP1
import Derived.Test.YtdpnahojhmkemaaGreatDoorKP2
namespace Go.Proofs.YtdpnahojhmkemaaGreatDoor
open Go Go.RowKit
set_option linter.unusedVariables false
set_option maxRecDepth 100000
theorem isLetter_iff (c : UInt8) : isLetter c = decide ((97 ≤ (c.toNat : Int) ∧ (c.toNat : Int) ≤ 122) ∨ (65 ≤ (c.toNat : Int) ∧ (c.toNat : Int) ≤ 90)) := by
 rw [Bool.eq_iff_iff]; simp [isLetter, UInt8.le_iff_toNat_le]; omega
theorem isDigit_iff (c : UInt8) : isDigit c = decide (48 ≤ (c.toNat : Int) ∧ (c.toNat : Int) ≤ 57) := by
 rw [Bool.eq_iff_iff]; simp [isDigit, UInt8.le_iff_toNat_le]; omega
set_option maxHeartbeats 400000 in
theorem letter_any (c : UInt8) (w : World) :
  Calls Tryz.prog 79 #[.int .u8 c.toNat] w fun e w' => e = .returned (.bool (isLetter c)) ∧ w = w' := by
 go_enter Tryz.func79, Tryz.ntmps79
 go_wp2
 all_goals
  go_ret
  refine ⟨ret_bool ?_, rfl⟩
  rw [isLetter_iff, Bool.eq_iff_iff]
  simp
  omega
set_option maxHeartbeats 400000 in
theorem digit_any (c : UInt8) (w : World) :
  Calls Tryz.prog 101 #[.int .u8 c.toNat] w fun e w' => e = .returned (.bool (isDigit c)) ∧ w = w' := by
 go_enter Tryz.func101, Tryz.ntmps101
 go_wp2
 all_goals
  go_ret
  refine ⟨ret_bool ?_, rfl⟩
  rw [isDigit_iff, Bool.eq_iff_iff]
  simp
  omega
theorem enters_letter (args : Array Value) (w : World) : (callFunc 79 args).run Tryz.prog w = .ok (.enter 79 args) w := enters_of Tryz.func79 (by kernel_rfl) rfl args w
theorem enters_digit (args : Array Value) (w : World) : (callFunc 101 args).run Tryz.prog w = .ok (.enter 101 args) w := enters_of Tryz.func101 (by kernel_rfl) rfl args w
theorem enters_any1 (args : Array Value) (w : World) : (callFunc 150 args).run Tryz.prog w = .ok (.enter 150 args) w := enters_of Tryz.func150 (by kernel_rfl) rfl args w
theorem all_b (s : ByteArray) (f : FuncId) (fr cap : Array Value) (p : UInt8 → Bool) (b : Bool) (w : World) (h63 : s.size ≤ 9223372036854775807)
  (HE : ∀ args w, (callFunc f args).run Tryz.prog w = .ok (.enter f args) w)
  (H : ∀ c : UInt8, Calls Tryz.prog f (fr.push (.int .u8 c.toNat) ++ cap) w fun e w' => e = .returned (.bool (p c)) ∧ w = w') (hb : s.data.toList.all p = b) :
  Calls Tryz.prog 131 #[.string s, .func (.func f) fr cap] w fun e w' => e = .returned (.bool b) ∧ w = w' := by
 refine (all_any s f fr cap p w h63 HE H).mono ?_
 rintro e w' ⟨rfl, rfl⟩
 exact ⟨by rw [hb], rfl⟩
def Asks (w : World) (v : Value) (p : UInt8 → Bool) : Prop :=
 ∃ f fr cap, v = .func (.func f) fr cap ∧ (∀ args w, (callFunc f args).run Tryz.prog w = .ok (.enter f args) w) ∧
  ∀ c : UInt8, Calls Tryz.prog f (fr.push (.int .u8 c.toNat) ++ cap) w fun e w' => e = .returned (.bool (p c)) ∧ w = w'
set_option maxHeartbeats 1000000 in
theorem any1_any (c : UInt8) (bl bs : Nat) (cap : Nat) (ps : List (UInt8 → Bool)) (w : World) (hl : w.cell? ⟨bl, 0, none⟩ = some (.slice (some ⟨bs, 0, none⟩) ps.length cap)) (hn : ps.length ≤ 1000)
  (hc : ∀ i (h : i < ps.length), ∃ v, w.cell? ⟨bs, i, none⟩ = some v ∧ Asks w v ps[i]) :
  Calls Tryz.prog 150 #[.int .u8 c.toNat, .pointer (some ⟨bl, 0, none⟩)] w fun e w' => e = .returned (.bool (ps.any fun p => p c)) ∧ w = w' := by
 have HC := Lib.hid hc; clear hc
 go_enter Tryz.func150, Tryz.ntmps150
 go_wp2
 go_loop [5, 8] (fun _ i => ∃ k : Nat, k ≤ ps.length ∧ i = .int .i64 k ∧ Hid ((ps.take k).any (fun p => p c) = false)) (fun _ i => ps.length - (intOf i).toNat)
 case atStart => exact ⟨0, Nat.zero_le _, rfl, rfl⟩
 case round =>
  obtain ⟨k, hk, rfl, hall⟩ := hrel
  by_cases hlt : k < ps.length
  ·obtain ⟨v, hv, f, fr, cp, rfl, hE, hA⟩ := HC.out k hlt
   have HA := Lib.hid (hA c); clear hA
   cases hp : ps[k] c with
   | true =>
    have HT := Lib.hid (show ps.any (fun p => p c) = true by rw [List.any_eq_true]; exact ⟨ps[k], List.getElem_mem _, hp⟩)
    have HP := Lib.hid hp; clear hp
    go_wp2_with (refine HA.out.mono ?_; rintro e w' ⟨rfl, rfl⟩; rw [HP.out])
    go_ret
    exact ⟨ret_bool HT.out.symm, rfl⟩
   | false =>
    have HT := Lib.hid (show (ps.take (k + 1)).any (fun p => p c) = false by rw [List.take_succ_eq_append_getElem hlt, List.any_append, hall.out]; simp [hp])
    have HP := Lib.hid hp; clear hp
    go_wp2_with (refine HA.out.mono ?_; rintro e w' ⟨rfl, rfl⟩; rw [HP.out])
    go_round
    case rel => exact ⟨k + 1, by omega, by go_num, HT⟩
    case measure => simp [intOf]; omega
  ·go_wp2
   go_ret
   have : k = ps.length := by omega
   subst this
   have := hall.out
   rw [List.take_length] at this
   exact ⟨ret_bool this.symm, rfl⟩
set_option maxHeartbeats 400000 in
theorem any_any (oa : Option Addr) (n cap : Nat) (w : World) :
  Calls Tryz.prog 124 #[.slice oa n cap] w fun e w' => e = .returned (.func (.func 150) #[] #[.pointer (some ⟨w.heap.size, 0, none⟩)]) ∧ w' = w.alloc (.cells #[.slice oa n cap] 173) := by
 go_enter Tryz.func124, Tryz.ntmps124
 go_wp2
 go_ret
 exact ⟨rfl, rfl⟩
end Go.Proofs.YtdpnahojhmkemaaGreatDoor
namespace Go.Proofs.YtdpnahojhmkemaaGreatDoor
set_option linter.unusedVariables false
def lastPt : Str → Option (Str × Str)
 | [] => none
 | c :: r => match lastPt r with
  | some (a, b) => some (c :: a, b)
  | none => if c == 46 then some ([], r) else none
def cutPt (s : Str) : Str × Str := (lastPt s).getD ([], [])
def cutAt : Str → Str × Str × Bool
 | [] => ([], [], false)
 | c :: r => if c == 64 then ([], r, true) else (c :: (cutAt r).1, (cutAt r).2.1, (cutAt r).2.2)
def nameC (c : UInt8) : Bool := isLetter c || (isDigit c || ([58, 45, 95, 46, 92] : Str).contains c)
def nameB (s : Str) : Bool := s.all nameC
abbrev sService : Str := [115, 101, 114, 118, 105, 99, 101]
abbrev sSocket : Str := [115, 111, 99, 107, 101, 116]
abbrev sTimer : Str := [116, 105, 109, 101, 114]
abbrev sTarget : Str := [116, 97, 114, 103, 101, 116]
def sufS (k : Nat) : Str := if k = 1 then sService else if k = 2 then sSocket else if k = 3 then sTimer else if k = 4 then sTarget else []
def kindOf (suf : Str) : Nat := if suf = sService then 1 else if suf = sSocket then 2 else if suf = sTimer then 3 else if suf = sTarget then 4 else 0
def kindS (s : Str) : Nat :=
 if s.length ≤ 60 ∧ (cutAt (cutPt s).1).1 ≠ [] ∧ nameB (cutAt (cutPt s).1).1 = true ∧ nameB (cutAt (cutPt s).1).2.1 = true then kindOf (cutPt s).2 else 0
theorem lastPt_no {s : Str} (h : s.contains 46 = false) : lastPt s = none := by
 induction s with
 | nil => rfl
 | cons c r ih =>
  rw [List.contains_cons, Bool.or_eq_false_iff] at h
  have hc : (c == 46) = false := by
   rw [beq_eq_false_iff_ne]; intro e; subst e; simp at h
  simp [lastPt, ih h.2, hc]
theorem lastPt_app (a : Str) {b : Str} (h : b.contains 46 = false) : lastPt (a ++ 46 :: b) = some (a, b) := by
 induction a with
 | nil => simp [lastPt, lastPt_no h]
 | cons c r ih => simp [lastPt, ih]
theorem lastPt_cases (s : Str) : (lastPt s = none ∧ s.contains 46 = false) ∨ ∃ a b, lastPt s = some (a, b) ∧ s = a ++ 46 :: b ∧ b.contains 46 = false := by
 induction s with
 | nil => exact .inl ⟨rfl, rfl⟩
 | cons c r ih =>
  rcases ih with ⟨h1, h2⟩ | ⟨a, b, h1, h2, h3⟩
  ·cases hc : (c == 46) with
   | true =>
    have := eq_of_beq hc
    subst this
    exact .inr ⟨[], r, by simp [lastPt, h1], rfl, h2⟩
   | false =>
    refine .inl ⟨by simp [lastPt, h1, hc], ?_⟩
    rw [List.contains_cons, h2, Bool.or_false, beq_eq_false_iff_ne]
    rw [beq_eq_false_iff_ne] at hc
    exact fun e => hc e.symm
  ·exact .inr ⟨c :: a, b, by simp [lastPt, h1], by rw [h2]; rfl, h3⟩
theorem kindOf_le (s : Str) : kindOf s ≤ 4 := by
 unfold kindOf; repeat' split <;> first | omega | skip
theorem cutPt_len (s : Str) : (cutPt s).1.length ≤ s.length ∧ (cutPt s).2.length ≤ s.length := by
 unfold cutPt
 rcases lastPt_cases s with ⟨h, _⟩ | ⟨a, b, h, h2, _⟩
 ·rw [h]; simp
 ·rw [h, h2]; simp; omega
theorem cutAt_len : ∀ (s : Str), (cutAt s).1.length ≤ s.length ∧ (cutAt s).2.1.length ≤ s.length
 | [] => by simp [cutAt]
 | c :: r => by
  have := cutAt_len r
  unfold cutAt
  split <;> simp <;> omega
end Go.Proofs.YtdpnahojhmkemaaGreatDoor
namespace Go.Proofs.YtdpnahojhmkemaaGreatDoor
open Go Go.RowKit
set_option linter.unusedVariables false
set_option maxRecDepth 100000
set_option maxHeartbeats 400000 in
theorem let1_any (c : UInt8) (w : World) :
  Calls Tryz.prog 99 #[.int .u8 c.toNat] w fun e w' => e = .returned (.bool (isLetter c)) ∧ w = w' := by
 go_enter Tryz.func99, Tryz.ntmps99
 go_wp2
 all_goals
  go_ret
  refine ⟨ret_bool ?_, rfl⟩
  rw [isLetter_iff, Bool.eq_iff_iff]
  simp
  omega
set_option maxHeartbeats 400000 in
theorem dig1_any (c : UInt8) (w : World) :
  Calls Tryz.prog 53 #[.int .u8 c.toNat] w fun e w' => e = .returned (.bool (isDigit c)) ∧ w = w' := by
 go_enter Tryz.func53, Tryz.ntmps53
 go_wp2
 all_goals
  go_ret
  refine ⟨ret_bool ?_, rfl⟩
  rw [isDigit_iff, Bool.eq_iff_iff]
  simp
  omega
theorem signs_iff (c : UInt8) : ([58, 45, 95, 46, 92] : Str).contains c = decide ((c.toNat : Int) = 58 ∨ (c.toNat : Int) = 45 ∨ (c.toNat : Int) = 95 ∨ (c.toNat : Int) = 46 ∨ (c.toNat : Int) = 92) := by
 rw [Bool.eq_iff_iff, List.contains_iff_mem]
 simp [← UInt8.toNat_inj]
 omega
set_option maxHeartbeats 1000000 in
theorem nameByte_any (c : UInt8) (w : World) (b : Bool) (hb : nameC c = b) :
  Calls Tryz.prog 67 #[.int .u8 c.toNat] w fun e w' => e = .returned (.bool b) ∧ w = w' := by
 subst hb
 have HL := Lib.hid (fun W => let1_any c W)
 have HD := Lib.hid (fun W => dig1_any c W)
 unfold nameC
 rw [signs_iff]
 have hc := UInt8.toNat_lt c
 generalize isLetter c = l at *
 generalize isDigit c = d at *
 generalize c.toNat = n at *
 cases l with
 | true =>
  go_enter Tryz.func67, Tryz.ntmps67
  go_wp2_with (go_at_call 99; refine (HL.out _).mono ?_; rintro e w' ⟨rfl, rfl⟩)
  go_ret
  exact ⟨rfl, rfl⟩
 | false =>
  cases d with
  | true =>
   go_enter Tryz.func67, Tryz.ntmps67
   go_wp2_with (first
    | (go_at_call 99; refine (HL.out _).mono ?_; rintro e w' ⟨rfl, rfl⟩)
    | (go_at_call 53; refine (HD.out _).mono ?_; rintro e w' ⟨rfl, rfl⟩))
   go_ret
   exact ⟨rfl, rfl⟩
  | false =>
   go_enter Tryz.func67, Tryz.ntmps67
   go_wp2_with (first
    | (go_at_call 99; refine (HL.out _).mono ?_; rintro e w' ⟨rfl, rfl⟩)
    | (go_at_call 53; refine (HD.out _).mono ?_; rintro e w' ⟨rfl, rfl⟩))
   all_goals
    go_ret
    refine ⟨ret_bool ?_, rfl⟩
    rw [Bool.eq_iff_iff]
    simp
    try omega
def sufJ (n : Int) : Str := if n = 1 then sService else if n = 2 then sSocket else if n = 3 then sTimer else if n = 4 then sTarget else []
theorem sufJ_nat (k : Nat) : sufJ (k : Int) = sufS k := by
 unfold sufJ sufS
 by_cases h1 : k = 1
 ·subst h1; rfl
 by_cases h2 : k = 2
 ·subst h2; rfl
 by_cases h3 : k = 3
 ·subst h3; rfl
 by_cases h4 : k = 4
 ·subst h4; rfl
 rw [if_neg (by omega), if_neg (by omega), if_neg (by omega), if_neg (by omega), if_neg h1, if_neg h2, if_neg h3, if_neg h4]
set_option maxHeartbeats 400000 in
theorem suffix1_any (n : Int) (w : World) (t : Str) (ht : sufJ n = t) :
  Calls Tryz.prog 66 #[.int .i64 n] w fun e w' => e = .returned (.string ⟨t.toArray⟩) ∧ w = w' := by
 subst ht
 by_cases h1 : n = 1
 ·subst h1
  go_enter Tryz.func66, Tryz.ntmps66
  go_wp2
  go_ret
  exact ⟨rfl, rfl⟩
 by_cases h2 : n = 2
 ·subst h2
  clear h1
  go_enter Tryz.func66, Tryz.ntmps66
  go_wp2
  go_ret
  exact ⟨rfl, rfl⟩
 by_cases h3 : n = 3
 ·subst h3
  clear h1 h2
  go_enter Tryz.func66, Tryz.ntmps66
  go_wp2
  go_ret
  exact ⟨rfl, rfl⟩
 by_cases h4 : n = 4
 ·subst h4
  clear h1 h2 h3
  go_enter Tryz.func66, Tryz.ntmps66
  go_wp2
  go_ret
  exact ⟨rfl, rfl⟩
 have e : sufJ n = [] := by unfold sufJ; rw [if_neg h1, if_neg h2, if_neg h3, if_neg h4]
 rw [e]
 have q1 : (n == 1) = false := by rw [beq_eq_false_iff_ne]; exact h1
 have q2 : (n == 2) = false := by rw [beq_eq_false_iff_ne]; exact h2
 have q3 : (n == 3) = false := by rw [beq_eq_false_iff_ne]; exact h3
 have q4 : (n == 4) = false := by rw [beq_eq_false_iff_ne]; exact h4
 clear e h1 h2 h3 h4
 go_enter Tryz.func66, Tryz.ntmps66
 go_wp2
 go_ret
 exact ⟨rfl, rfl⟩
end Go.Proofs.YtdpnahojhmkemaaGreatDoor
namespace Go.Proofs.YtdpnahojhmkemaaGreatDoor
open Go Go.RowKit
set_option linter.unusedVariables false
end Go.Proofs.YtdpnahojhmkemaaGreatDoor
