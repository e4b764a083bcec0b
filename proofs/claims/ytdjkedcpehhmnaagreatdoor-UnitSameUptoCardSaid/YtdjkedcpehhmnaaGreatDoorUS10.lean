import Derived.IntWalk
import Derived.Deep.LoopGhost
import Derived.Lib.SmallJoins
import Derived.Test.YtdjkedcpehhmnaaGreatDoorUS2
import Derived.Test.YtdjkedcpehhmnaaGreatDoorUS3
import Derived.Test.YtdjkedcpehhmnaaGreatDoorUS6
import Derived.Test.YtdjkedcpehhmnaaGreatDoorUS9
namespace Go.Proofs.YtdjkedcpehhmnaaGreatDoor
set_option linter.unusedVariables false
def lastPt : Str → Option (Str × Str)
 | [] => none
 | c :: r => match lastPt r with
  | some (a, b) => some (c :: a, b)
  | none => if c == 46 then some ([], r) else none
def cutPt (s : Str) : Str × Str := (lastPt s).getD ([], [])
def cutAt : Str → Str × Str × Bool
 | [] => ([], [], false)
 | c :: r => if c == 64 then ([], r, true) else (c :: (cutAt r).1, (cutAt r).2.1, (cutAt r).2.2)
def nameC (c : UInt8) : Bool := isLetter c || (isDigit c || ([58, 45, 95, 46, 92] : Str).contains c)
def nameB (s : Str) : Bool := s.all nameC
abbrev sService : Str := [115, 101, 114, 118, 105, 99, 101]
abbrev sSocket : Str := [115, 111, 99, 107, 101, 116]
abbrev sTimer : Str := [116, 105, 109, 101, 114]
abbrev sTarget : Str := [116, 97, 114, 103, 101, 116]
def sufS (k : Nat) : Str := if k = 1 then sService else if k = 2 then sSocket else if k = 3 then sTimer else if k = 4 then sTarget else []
def kindOf (suf : Str) : Nat := if suf = sService then 1 else if suf = sSocket then 2 else if suf = sTimer then 3 else if suf = sTarget then 4 else 0
def kindS (s : Str) : Nat :=
 if s.length ≤ 60 ∧ (cutAt (cutPt s).1).1 ≠ [] ∧ nameB (cutAt (cutPt s).1).1 = true ∧ nameB (cutAt (cutPt s).1).2.1 = true then kindOf (cutPt s).2 else 0
theorem lastPt_no {s : Str} (h : s.contains 46 = false) : lastPt s = none := by
 induction s with
 | nil => rfl
 | cons c r ih =>
  rw [List.contains_cons, Bool.or_eq_false_iff] at h
  have hc : (c == 46) = false := by
   rw [beq_eq_false_iff_ne]; intro e; subst e; simp at h
  simp [lastPt, ih h.2, hc]
theorem lastPt_app (a : Str) {b : Str} (h : b.contains 46 = false) : lastPt (a ++ 46 :: b) = some (a, b) := by
 induction a with
 | nil => simp [lastPt, lastPt_no h]
 | cons c r ih => simp [lastPt, ih]
theorem lastPt_cases (s : Str) : (lastPt s = none ∧ s.contains 46 = false) ∨ ∃ a b, lastPt s = some (a, b) ∧ s = a ++ 46 :: b ∧ b.contains 46 = false := by
 induction s with
 | nil => exact .inl ⟨rfl, rfl⟩
 | cons c r ih =>
  rcases ih with ⟨h1, h2⟩ | ⟨a, b, h1, h2, h3⟩
  ·cases hc : (c == 46) with
   | true =>
    have := eq_of_beq hc
    subst this
    exact .inr ⟨[], r, by simp [lastPt, h1], rfl, h2⟩
   | false =>
    refine .inl ⟨by simp [lastPt, h1, hc], ?_⟩
    rw [List.contains_cons, h2, Bool.or_false, beq_eq_false_iff_ne]
    rw [beq_eq_false_iff_ne] at hc
    exact fun e => hc e.symm
  ·exact .inr ⟨c :: a, b, by simp [lastPt, h1], by rw [h2]; rfl, h3⟩
theorem kindOf_le (s : Str) : kindOf s ≤ 4 := by
 unfold kindOf; repeat' split <;> first | omega | skip
theorem kindS_le (s : Str) : kindS s ≤ 4 := by
 unfold kindS; split
 ·exact kindOf_le _
 ·omega
theorem cutPt_len (s : Str) : (cutPt s).1.length ≤ s.length ∧ (cutPt s).2.length ≤ s.length := by
 unfold cutPt
 rcases lastPt_cases s with ⟨h, _⟩ | ⟨a, b, h, h2, _⟩
 ·rw [h]; simp
 ·rw [h, h2]; simp; omega
theorem cutAt_len : ∀ (s : Str), (cutAt s).1.length ≤ s.length ∧ (cutAt s).2.1.length ≤ s.length
 | [] => by simp [cutAt]
 | c :: r => by
  have := cutAt_len r
  unfold cutAt
  split <;> simp <;> omega
open Go Go.RowKit
set_option maxRecDepth 100000
theorem lastIdx_pt (s : ByteArray) : (Lib.lastIndexByte s 46 = -1 ∧ lastPt s.data.toList = none) ∨ ∃ a b, Lib.lastIndexByte s 46 = (a.length : Int) ∧ lastPt s.data.toList = some (a, b) ∧ s.data.toList = a ++ 46 :: b := by
 have hl : s.data.toList.length = s.size := by simp
 have hget : ∀ j (h : j < s.size), s.data[j]! = s.data.toList[j]'(by rw [hl]; exact h) := fun j h => by
  rw [getElem!_pos s.data j (by exact h)]; simp
 unfold Lib.lastIndexByte
 rcases Lib.lastIdx_spec s 46 s.size with ⟨h1, h2⟩ | ⟨i, hi, h1, h3, h4⟩
 ·refine .inl ⟨h1, lastPt_no ?_⟩
  rw [← Bool.not_eq_true, List.contains_iff_mem]
  intro hm
  obtain ⟨j, hj, e⟩ := List.getElem_of_mem hm
  rw [hl] at hj
  have := h2 j hj
  rw [hget j hj, e] at this
  exact this rfl
 ·have hi' : i < s.data.toList.length := by rw [hl]; exact hi
  have e46 : s.data.toList[i] = 46 := by
   rw [hget i hi] at h3
   rw [← UInt8.toNat_inj]
   have : ((46 : UInt8).toNat : Int) = 46 := rfl
   omega
  have hs : s.data.toList = s.data.toList.take i ++ 46 :: s.data.toList.drop (i + 1) := by
   conv => lhs; rw [← List.take_append_drop i s.data.toList, List.drop_eq_getElem_cons hi', e46]
  have hno : (s.data.toList.drop (i + 1)).contains 46 = false := by
   rw [← Bool.not_eq_true, List.contains_iff_mem]
   intro hm
   obtain ⟨j, hj, e⟩ := List.getElem_of_mem hm
   rw [List.getElem_drop] at e
   simp at hj
   have := h4 (i + 1 + j) (by omega) (by omega)
   rw [hget _ (by omega), e] at this
   exact this rfl
  refine .inr ⟨s.data.toList.take i, s.data.toList.drop (i + 1), ?_, ?_, hs⟩
  ·rw [h1, List.length_take, Nat.min_eq_left (by omega)]
  ·rw [hs, lastPt_app _ hno]
   conv => rhs; rw [← hs]
theorem ext_str' (s : ByteArray) (a b : Nat) (l : Str) (h : (s.extract a b).data.toList = l) : s.extract a b = ⟨l.toArray⟩ := by
 apply bytes_ext; rw [h]
set_option maxHeartbeats 1000000 in
theorem cut_any (s : ByteArray) (w : World) (hs : s.size < 4611686018427387904) (a b : Str) (hc : cutPt s.data.toList = (a, b)) :
  Calls Tryz.prog 69 #[.string s] w fun e w' => e = .returned (.tuple #[.string ⟨a.toArray⟩, .string ⟨b.toArray⟩]) ∧ ∃ n, w' = w.drewN n := by
 unfold cutPt at hc
 have HC := h_ (Tryz.strings_LastIndex_one s ⟨#[46]⟩ rfl hs w)
 rcases lastIdx_pt s with ⟨h1, h2⟩ | ⟨x, y, h1, h2, h3⟩
 ·rw [h2] at hc
  have : a = [] ∧ b = [] := by simp at hc; exact ⟨hc.1, hc.2⟩
  obtain ⟨rfl, rfl⟩ := this
  have H1 := h_ h1; clear h1 h2 hc
  go_enter Tryz.func69, Tryz.ntmps69
  go_wp2_with fail
  refine HC.out.mono ?_
  rintro e w' ⟨rfl, rfl⟩
  have e1 : Lib.lastIndexByte s (((⟨#[46]⟩ : ByteArray)[0]'(by decide)).toNat : Int) = -1 := H1.out
  rw [e1]
  clear e1
  go_wp2_with fail
  go_ret2
  exact ⟨rfl, 0, rfl⟩
 ·rw [h2] at hc
  have : x = a ∧ y = b := by simp at hc; exact hc
  obtain ⟨rfl, rfl⟩ := this
  have hxl : x.length + 1 ≤ s.size := by
   have : s.data.toList.length = s.size := by simp
   rw [← this, h3]; simp
  have H1 := h_ h1
  have HA := h_ (show s.extract 0 x.length = ⟨x.toArray⟩ from ext_str' s 0 x.length _ (by rw [Lib.extract_data, h3]; simp))
  have HB := h_ (show s.extract (x.length + 1) s.size = ⟨y.toArray⟩ from ext_str' s _ _ _ (by rw [Lib.extract_to_end, h3]; simp))
  clear h1 h2 h3 hc
  have hx1 : x.length ≤ s.size := by omega
  have hx2 : ((x.length : Int) + 1) ≤ (s.size : Int) := by omega
  have k1 : IntKind.i64.wrap ((x.length : Int) + 1) = (x.length : Int) + 1 := IntWalk.i64_in _ (by omega)
  have k2 : 0 ≤ (x.length : Int) + 1 := by omega
  have k3 : ((x.length : Int) + 1).toNat = x.length + 1 := by omega
  go_enter Tryz.func69, Tryz.ntmps69
  go_wp2_with fail
  refine HC.out.mono ?_
  rintro e w' ⟨rfl, rfl⟩
  have e1 : Lib.lastIndexByte s (((⟨#[46]⟩ : ByteArray)[0]'(by decide)).toNat : Int) = (x.length : Int) := H1.out
  rw [e1]
  clear e1
  go_wp2_with fail
  go_quiet (fail)
  go_wp2_with fail
  go_ret2
  refine ⟨?_, _, rfl⟩
  rw [← HA.out, ← HB.out]
  rfl
theorem cutAt_lib (s : Str) : Lib.cut s [64] = cutAt s := by
 have key : ∀ (s : Str), (Lib.index s [64] = -1 ∧ cutAt s = (s, [], false)) ∨ ∃ a b, Lib.index s [64] = (a.length : Int) ∧ s = a ++ 64 :: b ∧ cutAt s = (a, b, true) := by
  intro s
  induction s with
  | nil => exact .inl ⟨rfl, rfl⟩
  | cons c r ih =>
   cases hc : (c == 64) with
   | true =>
    have := eq_of_beq hc
    subst this
    refine .inr ⟨[], r, ?_, rfl, by simp [cutAt]⟩
    unfold Lib.index
    rw [show List.isPrefixOf [64] (64 :: r) = true by simp [List.isPrefixOf]]
    rfl
   | false =>
    have hp : List.isPrefixOf [64] (c :: r) = false := by
     simp only [List.isPrefixOf, Bool.and_true]
     rw [beq_eq_false_iff_ne] at hc ⊢
     exact fun e => hc e.symm
    rcases ih with ⟨h1, h2⟩ | ⟨a, b, h1, h2, h3⟩
    ·refine .inl ⟨?_, by simp [cutAt, hc, h2]⟩
     unfold Lib.index
     rw [hp, h1]; rfl
    ·refine .inr ⟨c :: a, b, ?_, by rw [h2]; rfl, by simp [cutAt, hc, h3]⟩
     unfold Lib.index
     rw [hp, h1]
     have : ((a.length : Int) == -1) = false := by rw [beq_eq_false_iff_ne]; omega
     simp [this]
 unfold Lib.cut
 rcases key s with ⟨h1, h2⟩ | ⟨a, b, h1, h2, h3⟩
 ·rw [h1, h2]; simp
 ·rw [h1, h3, if_pos (by omega), h2]
  simp
theorem cutAt_any (s : ByteArray) (w : World) (hs : s.size < 4294967281) (hm : MaxAt w) (a b : Str) (f : Bool) (hc : cutAt s.data.toList = (a, b, f)) :
  Calls Tryz.prog 70 #[.string s, .string ⟨#[64]⟩] w fun e w' => e = .returned (.tuple #[.string ⟨a.toArray⟩, .string ⟨b.toArray⟩, .bool f]) ∧ ∃ n, w' = w.drewN n := by
 obtain ⟨m, hm⟩ := hm
 refine (Tryz.strings_Cut s ⟨#[64]⟩ m w hs hm).mono ?_
 rintro e w' ⟨rfl, hw⟩
 refine ⟨?_, hw⟩
 show Ending.returned (.tuple #[.string ⟨(Lib.cut s.data.toList [64]).1.toArray⟩, .string ⟨(Lib.cut s.data.toList [64]).2.1.toArray⟩, .bool (Lib.cut s.data.toList [64]).2.2]) = _
 rw [cutAt_lib, hc]
def sufI (n : Int) : Str := if n = 1 then sService else if n = 2 then sSocket else if n = 3 then sTimer else if n = 4 then sTarget else []
theorem sufI_nat (k : Nat) : sufI (k : Int) = sufS k := by
 unfold sufI sufS
 by_cases h1 : k = 1
 ·subst h1; rfl
 by_cases h2 : k = 2
 ·subst h2; rfl
 by_cases h3 : k = 3
 ·subst h3; rfl
 by_cases h4 : k = 4
 ·subst h4; rfl
 rw [if_neg (by omega), if_neg (by omega), if_neg (by omega), if_neg (by omega), if_neg h1, if_neg h2, if_neg h3, if_neg h4]
set_option maxHeartbeats 400000 in
theorem suffix_any (n : Int) (w : World) (t : Str) (ht : sufI n = t) :
  Calls Tryz.prog 59 #[.int .i64 n] w fun e w' => e = .returned (.string ⟨t.toArray⟩) ∧ w = w' := by
 subst ht
 by_cases h1 : n = 1
 ·subst h1
  go_enter Tryz.func59, Tryz.ntmps59
  go_wp2
  go_ret
  exact ⟨rfl, rfl⟩
 by_cases h2 : n = 2
 ·subst h2
  clear h1
  go_enter Tryz.func59, Tryz.ntmps59
  go_wp2
  go_ret
  exact ⟨rfl, rfl⟩
 by_cases h3 : n = 3
 ·subst h3
  clear h1 h2
  go_enter Tryz.func59, Tryz.ntmps59
  go_wp2
  go_ret
  exact ⟨rfl, rfl⟩
 by_cases h4 : n = 4
 ·subst h4
  clear h1 h2 h3
  go_enter Tryz.func59, Tryz.ntmps59
  go_wp2
  go_ret
  exact ⟨rfl, rfl⟩
 have e : sufI n = [] := by unfold sufI; rw [if_neg h1, if_neg h2, if_neg h3, if_neg h4]
 rw [e]
 have q1 : (n == 1) = false := by rw [beq_eq_false_iff_ne]; exact h1
 have q2 : (n == 2) = false := by rw [beq_eq_false_iff_ne]; exact h2
 have q3 : (n == 3) = false := by rw [beq_eq_false_iff_ne]; exact h3
 have q4 : (n == 4) = false := by rw [beq_eq_false_iff_ne]; exact h4
 clear e h1 h2 h3 h4
 go_enter Tryz.func59, Tryz.ntmps59
 go_wp2
 go_ret
 exact ⟨rfl, rfl⟩
theorem in1_any (c : UInt8) (b : Nat) (t : ByteArray) (w : World) (hl : w.cell? ⟨b, 0, none⟩ = some (.string t)) (r : Bool) (hr : t.data.toList.contains c = r) :
  Calls Tryz.prog 161 #[.int .u8 c.toNat, .pointer (some ⟨b, 0, none⟩)] w fun e w' => e = .returned (.bool r) ∧ w = w' := by
 have hix : decide (0 ≤ Lib.indexByte t.data.toList c) = r := by
  rw [← hr]
  have key : ∀ l : Str, (0 ≤ Lib.indexByte l c ∧ l.contains c = true) ∨ (Lib.indexByte l c = -1 ∧ l.contains c = false) := by
   intro l
   induction l with
   | nil => exact .inr ⟨rfl, rfl⟩
   | cons x l ih =>
    by_cases hx : x = c
    ·subst hx
     exact .inl ⟨by simp [Lib.indexByte], by simp⟩
    ·rcases ih with ⟨h1, h2⟩ | ⟨h1, h2⟩
     ·left
      refine ⟨?_, by rw [List.contains_cons, h2, Bool.or_true]⟩
      have : ¬ Lib.indexByte l c = -1 := by omega
      simp [Lib.indexByte, hx, this]
      omega
     ·right
      refine ⟨by simp [Lib.indexByte, hx, h1], ?_⟩
      rw [List.contains_cons, h2, Bool.or_false, beq_eq_false_iff_ne]
      exact fun e => hx e.symm
  rcases key t.data.toList with ⟨h1, h2⟩ | ⟨h1, h2⟩
  ·rw [h2]; simpa using h1
  ·rw [h2, h1]; rfl
 have HI := h_ hix; clear hix hr
 have HC := h_ (Tryz.strings_IndexByte t c.toNat w)
 go_enter Tryz.func161, Tryz.ntmps161
 go_wp2_with fail
 refine HC.out.mono ?_
 rintro e w' ⟨rfl, rfl⟩
 rw [u8_cast]
 go_wp2_with fail
 go_ret
 exact ⟨ret_bool HI.out, rfl⟩
set_option maxHeartbeats 400000 in
theorem in_any (s : ByteArray) (w : World) :
  Calls Tryz.prog 123 #[.string s] w fun e w' => e = .returned (.func (.func 161) #[] #[.pointer (some ⟨w.heap.size, 0, none⟩)]) ∧ w' = w.alloc (.cells #[.string s] 9) := by
 go_enter Tryz.func123, Tryz.ntmps123
 go_wp2
 go_ret
 exact ⟨rfl, rfl⟩
theorem enters_in1 (args : Array Value) (w : World) : (callFunc 161 args).run Tryz.prog w = .ok (.enter 161 args) w := enters_of Tryz.func161 (by kernel_rfl) rfl args w
theorem nameB_any (s : Str) : s.all (fun c => ([isLetter, isDigit, fun c => ([58, 45, 95, 46, 92] : Str).contains c] : List (UInt8 → Bool)).any fun p => p c) = nameB s := by
 unfold nameB
 congr 1
 funext c
 simp [nameC]
set_option maxHeartbeats 1000000 in
theorem plain_any (s : ByteArray) (w : World) (h63 : s.size ≤ 9223372036854775807) (b : Bool) (hb : nameB s.data.toList = b) :
  Calls Tryz.prog 71 #[.string s] w fun e w' => e = .returned (.bool b) ∧ Below w.heap.size w w' := by
 rw [← nameB_any] at hb
 let w1 := w.alloc (.cells #[.string ⟨#[58, 45, 95, 46, 92]⟩] 9)
 let w2 := w1.alloc (.cells #[.func (.func 121) #[] #[], .func (.func 122) #[] #[], .func (.func 161) #[] #[.pointer (some ⟨w.heap.size, 0, none⟩)]] 110)
 have hB : Below w.heap.size w (w2.alloc (.cells #[.slice (some ⟨w.heap.size + 1, 0, none⟩) 3 3] 179)) :=
  (((Below.refl _ _).alloc (Nat.le_refl _) _).alloc (by simp) _).alloc (by simp; omega) _
 have HA : ∀ w' : World, w' = (w2.alloc (.cells #[.slice (some ⟨w.heap.size + 1, 0, none⟩) 3 3] 179)) →
   Calls Tryz.prog 119 #[.string s, .func (.func 160) #[] #[.pointer (some ⟨w.heap.size + 1 + 1, 0, none⟩)]] w' fun e w'' => e = .returned (.bool b) ∧ w' = w'' := by
  intro w' hw'
  have z1 : w1.heap.size = w.heap.size + 1 := by simp [w1]
  have z2 : w2.heap.size = w.heap.size + 1 + 1 := by simp [w2, z1]
  have h0 : w'.heap[w.heap.size]? = some (.cells #[.string ⟨#[58, 45, 95, 46, 92]⟩] 9 (0, 0)) := by
   rw [hw']; exact heap_alloc (heap_alloc (heap_alloc_new w _) _) _
  have h2 : w'.heap[w.heap.size + 1]? = some (.cells #[.func (.func 121) #[] #[], .func (.func 122) #[] #[], .func (.func 161) #[] #[.pointer (some ⟨w.heap.size, 0, none⟩)]] 110 (0, 0)) := by
   rw [hw', ← z1]; exact heap_alloc (heap_alloc_new w1 _) _
  have h1 : w'.cell? ⟨w.heap.size + 1 + 1, 0, none⟩ = some (.slice (some ⟨w.heap.size + 1, 0, none⟩) 3 3) := by
   have h0 : w'.heap[w.heap.size + 1 + 1]? = some (.cells #[.slice (some ⟨w.heap.size + 1, 0, none⟩) 3 3] 179 (0, 0)) := by
    rw [hw', ← z2]
    exact heap_alloc_new w2 _
   rw [(rd h0).1]; rfl
  obtain ⟨hc, _⟩ := rd h2
  have hs : w'.cell? ⟨w.heap.size, 0, none⟩ = some (.string ⟨#[58, 45, 95, 46, 92]⟩) := by rw [(rd h0).1]; rfl
  refine all_b s 160 #[] _ (fun c => ([isLetter, isDigit, fun c => ([58, 45, 95, 46, 92] : Str).contains c] : List (UInt8 → Bool)).any fun p => p c) b w' h63 enters_any1 (fun c => ?_) hb
  refine (any1_any c (w.heap.size + 1 + 1) (w.heap.size + 1) 3 [isLetter, isDigit, fun c => ([58, 45, 95, 46, 92] : Str).contains c] w' h1 (by simp) ?_).mono ?_
  ·intro i hi
   match i, hi with
   | 0, _ => exact ⟨_, hc 0, _, _, _, rfl, enters_letter, fun c => letter_any c w'⟩
   | 1, _ => exact ⟨_, hc 1, _, _, _, rfl, enters_digit, fun c => digit_any c w'⟩
   | 2, _ => exact ⟨_, hc 2, _, _, _, rfl, enters_in1, fun c => in1_any c w.heap.size _ w' hs _ rfl⟩
   | n + 3, hi => exact absurd hi (by simp)
  ·rintro e w'' ⟨rfl, rfl⟩
   exact ⟨rfl, rfl⟩
 have HH := h_ HA; clear HA hb
 have HB := h_ hB; clear hB
 go_enter Tryz.func71, Tryz.ntmps71
 go_wp2_with (first
  | (go_at_call 123; refine (in_any _ _).mono ?_; rintro e w' ⟨rfl, rfl⟩)
  | (go_at_call 120; refine (any_any _ _ _ _).mono ?_; rintro e w' ⟨rfl, rfl⟩)
  | (go_at_call 119; refine ((HH.out _ (by simp [w1, w2])).mono ?_); rintro e w' ⟨rfl, rfl⟩))
 go_ret
 exact ⟨rfl, HB.out⟩
theorem kindOf_suf (k : Nat) (h1 : 1 ≤ k) (h4 : k ≤ 4) : kindOf (sufS k) = k := by
 match k, h1, h4 with
 | 1, _, _ => decide
 | 2, _, _ => decide
 | 3, _, _ => decide
 | 4, _, _ => decide
theorem kindOf_none {t : Str} (h : ∀ j, 1 ≤ j → j < 5 → sufS j ≠ t) : kindOf t = 0 := by
 unfold kindOf
 rw [if_neg (fun e => h 1 (by omega) (by omega) e.symm), if_neg (fun e => h 2 (by omega) (by omega) e.symm), if_neg (fun e => h 3 (by omega) (by omega) e.symm), if_neg (fun e => h 4 (by omega) (by omega) e.symm)]
set_option maxHeartbeats 2000000 in
theorem kind_any (s : ByteArray) (w : World) (hs : s.size < 4294967281) (hm : MaxAt w) (n : Nat) (hn : kindS s.data.toList = n) :
  Calls Tryz.prog 39 #[.string s] w fun e w' => e = .returned (.int .i64 n) ∧ Below w.heap.size w w' := by
 obtain ⟨a, b, hab⟩ : ∃ a b, cutPt s.data.toList = (a, b) := ⟨_, _, rfl⟩
 obtain ⟨p, i, f, hpi⟩ : ∃ p i f, cutAt a = (p, i, f) := ⟨_, _, _, rfl⟩
 have hl : s.data.toList.length = s.size := by simp
 have hal : a.length ≤ s.size := by have := (cutPt_len s.data.toList).1; rw [hab, hl] at this; exact this
 have hpl : p.length ≤ s.size := by have := (cutAt_len a).1; rw [hpi] at this; exact Nat.le_trans this hal
 have hil : i.length ≤ s.size := by have := (cutAt_len a).2; rw [hpi] at this; exact Nat.le_trans this hal
 unfold kindS at hn
 rw [hab] at hn
 simp only [hpi, hl] at hn
 obtain ⟨A, hA⟩ : ∃ A : ByteArray, A = ⟨a.toArray⟩ := ⟨_, rfl⟩
 obtain ⟨B, hB⟩ : ∃ B : ByteArray, B = ⟨b.toArray⟩ := ⟨_, rfl⟩
 obtain ⟨P, hP⟩ : ∃ P : ByteArray, P = ⟨p.toArray⟩ := ⟨_, rfl⟩
 obtain ⟨I, hI⟩ : ∃ I : ByteArray, I = ⟨i.toArray⟩ := ⟨_, rfl⟩
 have HC1 := h_ (cut_any s w (by omega) a b hab)
 have HC2 := h_ (fun w' (h : Below w.heap.size w w') => cutAt_any A w' (by subst hA; show a.toArray.size < _; simp; omega) (hm.below h) p i f (by subst hA; exact hpi))
 have HP := h_ (fun w' (c : Bool) (h : nameB p = c) => plain_any P w' (by subst hP; show p.toArray.size ≤ _; simp; omega) c (by subst hP; exact h))
 have HI := h_ (fun w' (c : Bool) (h : nameB i = c) => plain_any I w' (by subst hI; show i.toArray.size ≤ _; simp; omega) c (by subst hI; exact h))
 rw [← hA, ← hB] at HC1
 rw [← hP, ← hI] at HC2
 have hPe : P.size = p.length := by subst hP; show p.toArray.size = _; simp
 by_cases h60 : 60 < s.size
 ·rw [if_neg (by omega)] at hn
  subst hn
  clear hab hpi hA hB hP hI HP HI hPe hal hpl hil hl
  go_enter Tryz.func39, Tryz.ntmps39
  go_wp2_with (first
   | (go_at_call 69; refine HC1.out.mono ?_; rintro e w' ⟨rfl, n, rfl⟩)
   | (go_at_call 70; refine (HC2.out _ (below_dn ⟨_, rfl⟩)).mono ?_; rintro e w' ⟨rfl, n, rfl⟩)
   | fail)
  go_ret
  exact ⟨rfl, below_dn ⟨_, rfl⟩⟩
 by_cases h0 : p = []
 ·rw [if_neg (by intro e; exact e.2.1 h0)] at hn
  subst hn h0
  have hPn : P = ⟨#[]⟩ := hP
  subst hPn
  clear hab hpi hA hB hP hI HP HI hPe hal hpl hil hl
  go_enter Tryz.func39, Tryz.ntmps39
  go_wp2_with (first
   | (go_at_call 69; refine HC1.out.mono ?_; rintro e w' ⟨rfl, n, rfl⟩)
   | (go_at_call 70; refine (HC2.out _ (below_dn ⟨_, rfl⟩)).mono ?_; rintro e w' ⟨rfl, n, rfl⟩)
   | fail)
  go_ret
  exact ⟨rfl, below_dn ⟨_, rfl⟩⟩
 obtain ⟨n1, n2, n3, n4⟩ := str_ne (s := P) (by rw [hPe]; exact fun e => h0 (List.length_eq_zero_iff.mp e))
 cases hp : nameB p with
 | false =>
  rw [if_neg (by rw [hp]; rintro ⟨_, _, e, _⟩; cases e)] at hn
  subst hn
  have HP' := h_ (fun w' => HP.out w' false hp)
  clear hab hpi hA hB hP hI HP HI hPe hal hpl hil hl hp h0
  go_enter Tryz.func39, Tryz.ntmps39
  go_wp2_with (first
   | (go_at_call 69; refine HC1.out.mono ?_; rintro e w' ⟨rfl, n, rfl⟩)
   | (go_at_call 70; refine (HC2.out _ (below_dn ⟨_, rfl⟩)).mono ?_; rintro e w' ⟨rfl, n, rfl⟩)
   | (go_at_call 71; refine (HP'.out _).mono ?_; rintro e w' ⟨rfl, hb1⟩))
  go_ret
  exact ⟨rfl, Below.more (below_dn ⟨_, rfl⟩) hb1⟩
 | true =>
 have HP' := h_ (fun w' => HP.out w' true hp)
 cases hi : nameB i with
 | false =>
  rw [if_neg (by rw [hi]; rintro ⟨_, _, _, e⟩; cases e)] at hn
  subst hn
  have HI' := h_ (fun w' => HI.out w' false hi)
  clear hab hpi hA hB hP hI HP HI hPe hal hpl hil hl hp h0 hi
  go_enter Tryz.func39, Tryz.ntmps39
  go_wp2_with (first
   | (go_at_call 69; refine HC1.out.mono ?_; rintro e w' ⟨rfl, n, rfl⟩)
   | (go_at_call 70; refine (HC2.out _ (below_dn ⟨_, rfl⟩)).mono ?_; rintro e w' ⟨rfl, n, rfl⟩)
   | fail)
  with_reducible refine (HP'.out _).mono ?_
  rintro e w' ⟨rfl, hb1⟩
  go_wp2_with fail
  with_reducible refine (HI'.out _).mono ?_
  rintro e w'' ⟨rfl, hb2⟩
  go_wp2_with fail
  go_ret
  exact ⟨rfl, Below.more (Below.more (below_dn ⟨_, rfl⟩) hb1) hb2⟩
 | true =>
  rw [if_pos ⟨by omega, h0, hp, hi⟩] at hn
  subst hn
  have HI' := h_ (fun w' => HI.out w' true hi)
  have HS := h_ (fun (w' : World) (k : Nat) => suffix_any (k : Int) w' (sufS k) (sufI_nat k))
  obtain ⟨SF, hSF⟩ : ∃ SF : Nat → ByteArray, ∀ k, SF k = ⟨(sufS k).toArray⟩ := ⟨_, fun _ => rfl⟩
  have HB' := h_ (fun k => show (SF k = B) ↔ sufS k = b by rw [hSF, hB]; simp)
  have HSF := h_ hSF
  clear hSF hab hpi hA hB hP hI HP HI hPe hal hpl hil hl hp h0 hi
  go_enter Tryz.func39, Tryz.ntmps39
  go_wp2_with (first
   | (go_at_call 69; refine HC1.out.mono ?_; rintro e w' ⟨rfl, n, rfl⟩)
   | (go_at_call 70; refine (HC2.out _ (below_dn ⟨_, rfl⟩)).mono ?_; rintro e w' ⟨rfl, n, rfl⟩)
   | fail)
  with_reducible refine (HP'.out _).mono ?_
  rintro e w' ⟨rfl, hb1⟩
  go_wp2_with fail
  with_reducible refine (HI'.out _).mono ?_
  rintro e w'' ⟨rfl, hb2⟩
  go_wp2_with fail
  have hbb := Below.more (Below.more (below_dn (a := w) ⟨_, rfl⟩) hb1) hb2
  clear hb1 hb2
  go_loop [8] (fun i => ∃ k : Nat, 1 ≤ k ∧ k ≤ 5 ∧ i = .int .i64 k ∧ Hid (∀ j, 1 ≤ j → j < k → sufS j ≠ b)) (fun i => 5 - (intOf i).toNat)
  case atStart => exact ⟨1, by omega, by omega, rfl, h_ (fun j h1 h2 => by omega)⟩
  case round =>
   obtain ⟨k, hk1, hk5, rfl, hj⟩ := hrel
   by_cases hlt : k ≤ 4
   ·by_cases hsk : sufS k = b
    ·have e1 : SF k = B := (HB'.out k).mpr hsk
     have HK := h_ (show kindOf b = k by rw [← hsk]; exact kindOf_suf k hk1 hlt)
     have HS1 := h_ (HS.out w'' k)
     rw [← HSF.out, e1] at HS1
     clear hsk
     go_wp2_with (refine HS1.out.mono ?_; rintro e w3 ⟨rfl, rfl⟩)
     go_ret
     exact ⟨ret_int (by rw [HK.out]), hbb⟩
    ·have e2 : ((SF k).toList == B.toList) = false := by rw [beq_eq_false_iff_ne]; exact fun e => hsk ((HB'.out k).mp (by rw [ByteArray.toList_eq, ByteArray.toList_eq] at e; exact bytes_ext e))
     have HS1 := h_ (HS.out w'' k)
     have HJ := h_ (show ∀ j, 1 ≤ j → j < k + 1 → sufS j ≠ b from fun j h1 h2 => by
      by_cases hjk : j = k
      ·subst hjk; exact hsk
      ·exact hj.out j h1 (by omega))
     rw [← HSF.out] at HS1
     clear hsk
     go_wp2_with (refine HS1.out.mono ?_; rintro e w3 ⟨rfl, rfl⟩)
     refine ⟨⟨k + 1, by omega, by omega, by go_num, HJ⟩, ?_⟩
     simp [intOf]; omega
   ·have HK := h_ (show kindOf b = 0 from kindOf_none fun j h1 h2 => hj.out j h1 (by omega))
    go_wp2_with fail
    go_ret
    exact ⟨ret_int (by rw [HK.out]; rfl), hbb⟩
end Go.Proofs.YtdjkedcpehhmnaaGreatDoor
