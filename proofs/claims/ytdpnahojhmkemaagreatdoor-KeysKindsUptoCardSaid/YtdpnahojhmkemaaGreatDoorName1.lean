/-
  Package name: cut, plain, Suffix.
-/
import Derived.Test.YtdpnahojhmkemaaGreatDoorShelf
import Derived.Test.YtdpnahojhmkemaaGreatDoorCharsB
import Derived.Test.YtdpnahojhmkemaaGreatDoorNameS
import Derived.Test.YtdpnahojhmkemaaGreatDoorMaxAt
import Derived.IntWalk
import Derived.Deep.LoopGhost
import Derived.Lib.SmallJoins
namespace Go.Proofs.YtdpnahojhmkemaaGreatDoor
open Go Go.RowKit
set_option linter.unusedVariables false
set_option maxRecDepth 100000

theorem lastIdx_pt (s : ByteArray) : (Lib.lastIndexByte s 46 = -1 ∧ lastPt s.data.toList = none) ∨ ∃ a b, Lib.lastIndexByte s 46 = (a.length : Int) ∧ lastPt s.data.toList = some (a, b) ∧ s.data.toList = a ++ 46 :: b := by
  have hl : s.data.toList.length = s.size := by simp
  have hget : ∀ j (h : j < s.size), s.data[j]! = s.data.toList[j]'(by rw [hl]; exact h) := fun j h => by
    rw [getElem!_pos s.data j (by exact h)]; simp
  unfold Lib.lastIndexByte
  rcases Lib.lastIdx_spec s 46 s.size with ⟨h1, h2⟩ | ⟨i, hi, h1, h3, h4⟩
  · refine .inl ⟨h1, lastPt_no ?_⟩
    rw [← Bool.not_eq_true, List.contains_iff_mem]
    intro hm
    obtain ⟨j, hj, e⟩ := List.getElem_of_mem hm
    rw [hl] at hj
    have := h2 j hj
    rw [hget j hj, e] at this
    exact this rfl
  · have hi' : i < s.data.toList.length := by rw [hl]; exact hi
    have e46 : s.data.toList[i] = 46 := by
      rw [hget i hi] at h3
      rw [← UInt8.toNat_inj]
      have : ((46 : UInt8).toNat : Int) = 46 := rfl
      omega
    have hs : s.data.toList = s.data.toList.take i ++ 46 :: s.data.toList.drop (i + 1) := by
      conv => lhs; rw [← List.take_append_drop i s.data.toList, List.drop_eq_getElem_cons hi', e46]
    have hno : (s.data.toList.drop (i + 1)).contains 46 = false := by
      rw [← Bool.not_eq_true, List.contains_iff_mem]
      intro hm
      obtain ⟨j, hj, e⟩ := List.getElem_of_mem hm
      rw [List.getElem_drop] at e
      simp at hj
      have := h4 (i + 1 + j) (by omega) (by omega)
      rw [hget _ (by omega), e] at this
      exact this rfl
    refine .inr ⟨s.data.toList.take i, s.data.toList.drop (i + 1), ?_, ?_, hs⟩
    · rw [h1, List.length_take, Nat.min_eq_left (by omega)]
    · rw [hs, lastPt_app _ hno]
      conv => rhs; rw [← hs]

theorem ext_str' (s : ByteArray) (a b : Nat) (l : Str) (h : (s.extract a b).data.toList = l) : s.extract a b = ⟨l.toArray⟩ := by
  apply bytes_ext; rw [h]

set_option maxHeartbeats 1000000 in
theorem cut_any (s : ByteArray) (w : World) (hs : s.size < 4611686018427387904) (a b : Str) (hc : cutPt s.data.toList = (a, b)) :
    Calls Tryz.prog 140 #[.string s] w fun e w' => e = .returned (.tuple #[.string ⟨a.toArray⟩, .string ⟨b.toArray⟩]) ∧ ∃ n, w' = w.drewN n := by
  unfold cutPt at hc
  have HC := Lib.hid (Tryz.strings_LastIndex_one s ⟨#[46]⟩ rfl hs w)
  rcases lastIdx_pt s with ⟨h1, h2⟩ | ⟨x, y, h1, h2, h3⟩
  · rw [h2] at hc
    have : a = [] ∧ b = [] := by simp at hc; exact ⟨hc.1, hc.2⟩
    obtain ⟨rfl, rfl⟩ := this
    have H1 := Lib.hid h1; clear h1 h2 hc
    go_enter Tryz.func140, Tryz.ntmps140
    go_wp2_with fail
    refine HC.out.mono ?_
    rintro e w' ⟨rfl, rfl⟩
    have e1 : Lib.lastIndexByte s (((⟨#[46]⟩ : ByteArray)[0]'(by decide)).toNat : Int) = -1 := H1.out
    rw [e1]
    clear e1
    go_wp2_with fail
    go_ret2
    exact ⟨rfl, 0, rfl⟩
  · rw [h2] at hc
    have : x = a ∧ y = b := by simp at hc; exact hc
    obtain ⟨rfl, rfl⟩ := this
    have hxl : x.length + 1 ≤ s.size := by
      have : s.data.toList.length = s.size := by simp
      rw [← this, h3]; simp
    have H1 := Lib.hid h1
    have HA := Lib.hid (show s.extract 0 x.length = ⟨x.toArray⟩ from ext_str' s 0 x.length _ (by rw [Lib.extract_data, h3]; simp))
    have HB := Lib.hid (show s.extract (x.length + 1) s.size = ⟨y.toArray⟩ from ext_str' s _ _ _ (by rw [Lib.extract_to_end, h3]; simp))
    clear h1 h2 h3 hc
    have hx1 : x.length ≤ s.size := by omega
    have hx2 : ((x.length : Int) + 1) ≤ (s.size : Int) := by omega
    have k1 : IntKind.i64.wrap ((x.length : Int) + 1) = (x.length : Int) + 1 := IntWalk.i64_in _ (by omega)
    have k2 : 0 ≤ (x.length : Int) + 1 := by omega
    have k3 : ((x.length : Int) + 1).toNat = x.length + 1 := by omega
    go_enter Tryz.func140, Tryz.ntmps140
    go_wp2_with fail
    refine HC.out.mono ?_
    rintro e w' ⟨rfl, rfl⟩
    have e1 : Lib.lastIndexByte s (((⟨#[46]⟩ : ByteArray)[0]'(by decide)).toNat : Int) = (x.length : Int) := H1.out
    rw [e1]
    clear e1
    go_wp2_with fail
    go_quiet (fail)
    go_wp2_with fail
    go_ret2
    refine ⟨?_, _, rfl⟩
    rw [← HA.out, ← HB.out]
    rfl

theorem cutAt_lib (s : Str) : Lib.cut s [64] = cutAt s := by
  have key : ∀ (s : Str), (Lib.index s [64] = -1 ∧ cutAt s = (s, [], false)) ∨ ∃ a b, Lib.index s [64] = (a.length : Int) ∧ s = a ++ 64 :: b ∧ cutAt s = (a, b, true) := by
    intro s
    induction s with
    | nil => exact .inl ⟨rfl, rfl⟩
    | cons c r ih =>
      cases hc : (c == 64) with
      | true =>
        have := eq_of_beq hc
        subst this
        refine .inr ⟨[], r, ?_, rfl, by simp [cutAt]⟩
        unfold Lib.index
        rw [show List.isPrefixOf [64] (64 :: r) = true by simp [List.isPrefixOf]]
        rfl
      | false =>
        have hp : List.isPrefixOf [64] (c :: r) = false := by
          simp only [List.isPrefixOf, Bool.and_true]
          rw [beq_eq_false_iff_ne] at hc ⊢
          exact fun e => hc e.symm
        rcases ih with ⟨h1, h2⟩ | ⟨a, b, h1, h2, h3⟩
        · refine .inl ⟨?_, by simp [cutAt, hc, h2]⟩
          unfold Lib.index
          rw [hp, h1]; rfl
        · refine .inr ⟨c :: a, b, ?_, by rw [h2]; rfl, by simp [cutAt, hc, h3]⟩
          unfold Lib.index
          rw [hp, h1]
          have : ((a.length : Int) == -1) = false := by rw [beq_eq_false_iff_ne]; omega
          simp [this]
  unfold Lib.cut
  rcases key s with ⟨h1, h2⟩ | ⟨a, b, h1, h2, h3⟩
  · rw [h1, h2]; simp
  · rw [h1, h3, if_pos (by omega), h2]
    simp

theorem cutAt_any (s : ByteArray) (w : World) (hs : s.size < 4294967281) (hm : MaxAt w) (a b : Str) (f : Bool) (hc : cutAt s.data.toList = (a, b, f)) :
    Calls Tryz.prog 91 #[.string s, .string ⟨#[64]⟩] w fun e w' => e = .returned (.tuple #[.string ⟨a.toArray⟩, .string ⟨b.toArray⟩, .bool f]) ∧ ∃ n, w' = w.drewN n := by
  obtain ⟨m, hm⟩ := hm
  refine (Tryz.strings_Cut s ⟨#[64]⟩ m w hs hm).mono ?_
  rintro e w' ⟨rfl, hw⟩
  refine ⟨?_, hw⟩
  show Ending.returned (.tuple #[.string ⟨(Lib.cut s.data.toList [64]).1.toArray⟩, .string ⟨(Lib.cut s.data.toList [64]).2.1.toArray⟩, .bool (Lib.cut s.data.toList [64]).2.2]) = _
  rw [cutAt_lib, hc]

/-- The string of a kind's suffix. -/
def sufI (n : Int) : Str := if n = 1 then sService else if n = 2 then sSocket else if n = 3 then sTimer else if n = 4 then sTarget else []
theorem sufI_nat (k : Nat) : sufI (k : Int) = sufS k := by
  unfold sufI sufS
  by_cases h1 : k = 1
  · subst h1; rfl
  by_cases h2 : k = 2
  · subst h2; rfl
  by_cases h3 : k = 3
  · subst h3; rfl
  by_cases h4 : k = 4
  · subst h4; rfl
  rw [if_neg (by omega), if_neg (by omega), if_neg (by omega), if_neg (by omega), if_neg h1, if_neg h2, if_neg h3, if_neg h4]

set_option maxHeartbeats 400000 in
theorem suffix_any (n : Int) (w : World) (t : Str) (ht : sufI n = t) :
    Calls Tryz.prog 142 #[.int .i64 n] w fun e w' => e = .returned (.string ⟨t.toArray⟩) ∧ w = w' := by
  subst ht
  by_cases h1 : n = 1
  · subst h1
    go_enter Tryz.func142, Tryz.ntmps142
    go_wp2
    go_ret
    exact ⟨rfl, rfl⟩
  by_cases h2 : n = 2
  · subst h2
    clear h1
    go_enter Tryz.func142, Tryz.ntmps142
    go_wp2
    go_ret
    exact ⟨rfl, rfl⟩
  by_cases h3 : n = 3
  · subst h3
    clear h1 h2
    go_enter Tryz.func142, Tryz.ntmps142
    go_wp2
    go_ret
    exact ⟨rfl, rfl⟩
  by_cases h4 : n = 4
  · subst h4
    clear h1 h2 h3
    go_enter Tryz.func142, Tryz.ntmps142
    go_wp2
    go_ret
    exact ⟨rfl, rfl⟩
  have e : sufI n = [] := by unfold sufI; rw [if_neg h1, if_neg h2, if_neg h3, if_neg h4]
  rw [e]
  have q1 : (n == 1) = false := by rw [beq_eq_false_iff_ne]; exact h1
  have q2 : (n == 2) = false := by rw [beq_eq_false_iff_ne]; exact h2
  have q3 : (n == 3) = false := by rw [beq_eq_false_iff_ne]; exact h3
  have q4 : (n == 4) = false := by rw [beq_eq_false_iff_ne]; exact h4
  clear e h1 h2 h3 h4
  go_enter Tryz.func142, Tryz.ntmps142
  go_wp2
  go_ret
  exact ⟨rfl, rfl⟩

/-- The closure that In gives, at a variable that holds a text. -/
theorem in1_any (c : UInt8) (b : Nat) (t : ByteArray) (w : World) (hl : w.cell? ⟨b, 0, none⟩ = some (.string t)) (r : Bool) (hr : t.data.toList.contains c = r) :
    Calls Tryz.prog 151 #[.int .u8 c.toNat, .pointer (some ⟨b, 0, none⟩)] w fun e w' => e = .returned (.bool r) ∧ w = w' := by
  have hix : decide (0 ≤ Lib.indexByte t.data.toList c) = r := by
    rw [← hr]
    have key : ∀ l : Str, (0 ≤ Lib.indexByte l c ∧ l.contains c = true) ∨ (Lib.indexByte l c = -1 ∧ l.contains c = false) := by
      intro l
      induction l with
      | nil => exact .inr ⟨rfl, rfl⟩
      | cons x l ih =>
        by_cases hx : x = c
        · subst hx
          exact .inl ⟨by simp [Lib.indexByte], by simp⟩
        · rcases ih with ⟨h1, h2⟩ | ⟨h1, h2⟩
          · left
            refine ⟨?_, by rw [List.contains_cons, h2, Bool.or_true]⟩
            have : ¬ Lib.indexByte l c = -1 := by omega
            simp [Lib.indexByte, hx, this]
            omega
          · right
            refine ⟨by simp [Lib.indexByte, hx, h1], ?_⟩
            rw [List.contains_cons, h2, Bool.or_false, beq_eq_false_iff_ne]
            exact fun e => hx e.symm
    rcases key t.data.toList with ⟨h1, h2⟩ | ⟨h1, h2⟩
    · rw [h2]; simpa using h1
    · rw [h2, h1]; rfl
  have HI := Lib.hid hix; clear hix hr
  have HC := Lib.hid (Tryz.strings_IndexByte t c.toNat w)
  go_enter Tryz.func151, Tryz.ntmps151
  go_wp2_with fail
  refine HC.out.mono ?_
  rintro e w' ⟨rfl, rfl⟩
  rw [u8_cast]
  go_wp2_with fail
  go_ret
  exact ⟨ret_bool HI.out, rfl⟩
set_option maxHeartbeats 400000 in
theorem in_any (s : ByteArray) (w : World) :
    Calls Tryz.prog 125 #[.string s] w fun e w' => e = .returned (.func (.func 151) #[] #[.pointer (some ⟨w.heap.size, 0, none⟩)]) ∧ w' = w.alloc (.cells #[.string s] 9) := by
  go_enter Tryz.func125, Tryz.ntmps125
  go_wp2
  go_ret
  exact ⟨rfl, rfl⟩
theorem enters_in1 (args : Array Value) (w : World) : (callFunc 151 args).run Tryz.prog w = .ok (.enter 151 args) w := enters_of Tryz.func151 (by kernel_rfl) rfl args w
end Go.Proofs.YtdpnahojhmkemaaGreatDoor
