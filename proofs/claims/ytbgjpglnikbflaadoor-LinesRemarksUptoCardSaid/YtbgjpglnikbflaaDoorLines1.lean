/-
  Package chars: Letter, Digit, Long, Any; package lines: section, key, good.
-/
import Derived.Test.YtbgjpglnikbflaaDoorCharsA
import Derived.Test.YtbgjpglnikbflaaDoorLinesS
import Derived.Shelf.Abstract
namespace Go.Proofs.YtbgjpglnikbflaaDoor
open Go Go.RowKit
set_option linter.unusedVariables false
set_option maxRecDepth 100000

theorem isLetter_iff (c : UInt8) : isLetter c = decide ((97 ≤ (c.toNat : Int) ∧ (c.toNat : Int) ≤ 122) ∨ (65 ≤ (c.toNat : Int) ∧ (c.toNat : Int) ≤ 90)) := by
  rw [Bool.eq_iff_iff]; simp [isLetter, UInt8.le_iff_toNat_le]; omega
theorem isDigit_iff (c : UInt8) : isDigit c = decide (48 ≤ (c.toNat : Int) ∧ (c.toNat : Int) ≤ 57) := by
  rw [Bool.eq_iff_iff]; simp [isDigit, UInt8.le_iff_toNat_le]; omega

set_option maxHeartbeats 400000 in
theorem letter_any (c : UInt8) (w : World) :
    Calls Tryd.prog 69 #[.int .u8 c.toNat] w fun e w' => e = .returned (.bool (isLetter c)) ∧ w = w' := by
  go_enter Tryd.func69, Tryd.ntmps69
  go_wp2
  all_goals
    go_ret
    refine ⟨ret_bool ?_, rfl⟩
    rw [isLetter_iff, Bool.eq_iff_iff]
    simp
    omega
set_option maxHeartbeats 400000 in
theorem digit_any (c : UInt8) (w : World) :
    Calls Tryd.prog 72 #[.int .u8 c.toNat] w fun e w' => e = .returned (.bool (isDigit c)) ∧ w = w' := by
  go_enter Tryd.func72, Tryd.ntmps72
  go_wp2
  all_goals
    go_ret
    refine ⟨ret_bool ?_, rfl⟩
    rw [isDigit_iff, Bool.eq_iff_iff]
    simp
    omega
set_option maxHeartbeats 400000 in
theorem goodC_any (c : UInt8) (w : World) :
    Calls Tryd.prog 64 #[.int .u8 c.toNat] w fun e w' => e = .returned (.bool (!isBad c)) ∧ w = w' := by
  go_enter Tryd.func64, Tryd.ntmps64
  go_wp2_with (go_at_call 65; refine (bad_any _ _).mono ?_; rintro e w' ⟨rfl, rfl⟩)
  go_ret
  exact ⟨rfl, rfl⟩

theorem enters_letter (args : Array Value) (w : World) : (callFunc 69 args).run Tryd.prog w = .ok (.enter 69 args) w := enters_of Tryd.func69 (by kernel_rfl) rfl args w
theorem enters_digit (args : Array Value) (w : World) : (callFunc 72 args).run Tryd.prog w = .ok (.enter 72 args) w := enters_of Tryd.func72 (by kernel_rfl) rfl args w
theorem enters_good1 (args : Array Value) (w : World) : (callFunc 64 args).run Tryd.prog w = .ok (.enter 64 args) w := enters_of Tryd.func64 (by kernel_rfl) rfl args w
theorem enters_any1 (args : Array Value) (w : World) : (callFunc 83 args).run Tryd.prog w = .ok (.enter 83 args) w := enters_of Tryd.func83 (by kernel_rfl) rfl args w

theorem all_b (s : ByteArray) (f : FuncId) (fr cap : Array Value) (p : UInt8 → Bool) (b : Bool) (w : World) (h63 : s.size ≤ 9223372036854775807)
    (HE : ∀ args w, (callFunc f args).run Tryd.prog w = .ok (.enter f args) w)
    (H : ∀ c : UInt8, Calls Tryd.prog f (fr.push (.int .u8 c.toNat) ++ cap) w fun e w' => e = .returned (.bool (p c)) ∧ w = w') (hb : s.data.toList.all p = b) :
    Calls Tryd.prog 63 #[.string s, .func (.func f) fr cap] w fun e w' => e = .returned (.bool b) ∧ w = w' := by
  refine (all_any s f fr cap p w h63 HE H).mono ?_
  rintro e w' ⟨rfl, rfl⟩
  exact ⟨by rw [hb], rfl⟩

set_option maxHeartbeats 400000 in
theorem good_any (s : ByteArray) (w : World) (h63 : s.size ≤ 9223372036854775807) (b : Bool) (hb : goodS s.data.toList = b) :
    Calls Tryd.prog 38 #[.string s] w fun e w' => e = .returned (.bool b) ∧ w = w' := by
  have HA := Lib.hid (all_b s 64 #[] #[] (fun c => !isBad c) b w h63 enters_good1 (fun c => goodC_any c w) hb)
  clear hb
  go_enter Tryd.func38, Tryd.ntmps38
  go_wp2_with (go_at_call 63; refine HA.out.mono ?_; rintro e w' ⟨rfl, rfl⟩)
  go_ret
  exact ⟨rfl, rfl⟩

/-- What Long comes to. -/
def longB (s : Str) (n : Int) (p : UInt8 → Bool) : Bool := !s.isEmpty && decide ((s.length : Int) ≤ n) && s.all p

set_option maxHeartbeats 400000 in
theorem long_any (s : ByteArray) (n : Int) (f : FuncId) (fr cap : Array Value) (p : UInt8 → Bool) (b : Bool) (w : World) (h63 : s.size ≤ 9223372036854775807)
    (HE : ∀ args w, (callFunc f args).run Tryd.prog w = .ok (.enter f args) w)
    (H : ∀ c : UInt8, Calls Tryd.prog f (fr.push (.int .u8 c.toNat) ++ cap) w fun e w' => e = .returned (.bool (p c)) ∧ w = w') (hb : longB s.data.toList n p = b) :
    Calls Tryd.prog 68 #[.string s, .int .i64 n, .func (.func f) fr cap] w fun e w' => e = .returned (.bool b) ∧ w = w' := by
  by_cases h0 : s.size = 0
  · have := str_nil h0
    subst this
    have : b = false := hb.symm
    subst this
    clear hb h0
    have HH := Lib.hid H; clear H
    go_enter Tryd.func68, Tryd.ntmps68
    go_wp2
    go_ret
    exact ⟨rfl, rfl⟩
  · obtain ⟨n1, n2, n3, n4⟩ := str_ne h0
    have hne : s.data.toList.isEmpty = false := by rw [← ByteArray.toList_eq]; exact n1
    have hlen : s.data.toList.length = s.size := by simp
    unfold longB at hb
    rw [hne, hlen] at hb
    clear hne hlen
    by_cases hn : (s.size : Int) ≤ n
    · have hd : decide ((s.size : Int) ≤ n) = true := by simpa using hn
      rw [hd] at hb
      simp only [Bool.not_false, Bool.true_and] at hb
      have HA := Lib.hid (all_b s f fr cap p b w h63 HE H hb)
      clear hb H HE
      go_enter Tryd.func68, Tryd.ntmps68
      go_wp2_with (go_at_call 63; refine HA.out.mono ?_; rintro e w' ⟨rfl, rfl⟩)
      go_ret
      exact ⟨rfl, rfl⟩
    · have hd : decide ((s.size : Int) ≤ n) = false := by simpa using hn
      rw [hd] at hb
      have : b = false := hb.symm
      subst this
      clear hb H HE
      go_enter Tryd.func68, Tryd.ntmps68
      go_wp2
      go_ret
      exact ⟨rfl, rfl⟩

theorem sectB_long (s : Str) : longB s 20 isLetter = sectB s := by
  unfold longB sectB
  congr 2
  rw [decide_eq_decide]; omega
theorem keyB_long (s : Str) : longB s 40 (fun c => isLetter c || isDigit c) = keyB s := by
  unfold longB keyB
  congr 2
  rw [decide_eq_decide]; omega

set_option maxHeartbeats 400000 in
theorem section_any (s : ByteArray) (w : World) (h63 : s.size ≤ 9223372036854775807) (b : Bool) (hb : sectB s.data.toList = b) :
    Calls Tryd.prog 41 #[.string s] w fun e w' => e = .returned (.bool b) ∧ w = w' := by
  rw [← sectB_long] at hb
  have HA := Lib.hid (long_any s 20 69 #[] #[] isLetter b w h63 enters_letter (fun c => letter_any c w) hb)
  clear hb
  go_enter Tryd.func41, Tryd.ntmps41
  go_wp2_with (go_at_call 68; refine HA.out.mono ?_; rintro e w' ⟨rfl, rfl⟩)
  go_ret
  exact ⟨rfl, rfl⟩

/-- One of some function values on bytes, that lies in a cell. -/
def Asks (w : World) (v : Value) (p : UInt8 → Bool) : Prop :=
  ∃ f fr cap, v = .func (.func f) fr cap ∧ (∀ args w, (callFunc f args).run Tryd.prog w = .ok (.enter f args) w) ∧
    ∀ c : UInt8, Calls Tryd.prog f (fr.push (.int .u8 c.toNat) ++ cap) w fun e w' => e = .returned (.bool (p c)) ∧ w = w'

set_option maxHeartbeats 1000000 in
/-- The closure that Any gives, at a variable that holds a slice of such. -/
theorem any1_any (c : UInt8) (bl bs : Nat) (cap : Nat) (ps : List (UInt8 → Bool)) (w : World) (hl : w.cell? ⟨bl, 0, none⟩ = some (.slice (some ⟨bs, 0, none⟩) ps.length cap)) (hn : ps.length ≤ 1000)
    (hc : ∀ i (h : i < ps.length), ∃ v, w.cell? ⟨bs, i, none⟩ = some v ∧ Asks w v ps[i]) :
    Calls Tryd.prog 83 #[.int .u8 c.toNat, .pointer (some ⟨bl, 0, none⟩)] w fun e w' => e = .returned (.bool (ps.any fun p => p c)) ∧ w = w' := by
  have HC := Lib.hid hc; clear hc
  go_enter Tryd.func83, Tryd.ntmps83
  go_wp2
  go_loop [5, 8] (fun _ i => ∃ k : Nat, k ≤ ps.length ∧ i = .int .i64 k ∧ Hid ((ps.take k).any (fun p => p c) = false)) (fun _ i => ps.length - (intOf i).toNat)
  case atStart => exact ⟨0, Nat.zero_le _, rfl, rfl⟩
  case round =>
    obtain ⟨k, hk, rfl, hall⟩ := hrel
    by_cases hlt : k < ps.length
    · obtain ⟨v, hv, f, fr, cp, rfl, hE, hA⟩ := HC.out k hlt
      have HA := Lib.hid (hA c); clear hA
      cases hp : ps[k] c with
      | true =>
        have HT := Lib.hid (show ps.any (fun p => p c) = true by rw [List.any_eq_true]; exact ⟨ps[k], List.getElem_mem _, hp⟩)
        have HP := Lib.hid hp; clear hp
        go_wp2_with (refine HA.out.mono ?_; rintro e w' ⟨rfl, rfl⟩; rw [HP.out])
        go_ret
        exact ⟨ret_bool HT.out.symm, rfl⟩
      | false =>
        have HT := Lib.hid (show (ps.take (k + 1)).any (fun p => p c) = false by rw [List.take_succ_eq_append_getElem hlt, List.any_append, hall.out]; simp [hp])
        have HP := Lib.hid hp; clear hp
        go_wp2_with (refine HA.out.mono ?_; rintro e w' ⟨rfl, rfl⟩; rw [HP.out])
        go_round
        case rel => exact ⟨k + 1, by omega, by go_num, HT⟩
        case measure => simp [intOf]; omega
    · go_wp2
      go_ret
      have : k = ps.length := by omega
      subst this
      have := hall.out
      rw [List.take_length] at this
      exact ⟨ret_bool this.symm, rfl⟩

set_option maxHeartbeats 400000 in
theorem any_any (oa : Option Addr) (n cap : Nat) (w : World) :
    Calls Tryd.prog 71 #[.slice oa n cap] w fun e w' => e = .returned (.func (.func 83) #[] #[.pointer (some ⟨w.heap.size, 0, none⟩)]) ∧ w' = w.alloc (.cells #[.slice oa n cap] 89) := by
  go_enter Tryd.func71, Tryd.ntmps71
  go_wp2
  go_ret
  exact ⟨rfl, rfl⟩

set_option maxHeartbeats 1000000 in
theorem key_any (s : ByteArray) (w : World) (h63 : s.size ≤ 9223372036854775807) (b : Bool) (hb : keyB s.data.toList = b) :
    Calls Tryd.prog 43 #[.string s] w fun e w' => e = .returned (.bool b) ∧ Below w.heap.size w w' := by
  rw [← keyB_long] at hb
  have hB : Below w.heap.size w ((w.alloc (.cells #[.func (.func 69) #[] #[], .func (.func 72) #[] #[]] 61)).alloc (.cells #[.slice (some ⟨w.heap.size, 0, none⟩) 2 2] 89)) :=
    ((Below.refl _ _).alloc (Nat.le_refl _) _).alloc (by simp) _
  have HA : ∀ w' : World, w' = ((w.alloc (.cells #[.func (.func 69) #[] #[], .func (.func 72) #[] #[]] 61)).alloc (.cells #[.slice (some ⟨w.heap.size, 0, none⟩) 2 2] 89)) →
      Calls Tryd.prog 68 #[.string s, .int .i64 40, .func (.func 83) #[] #[.pointer (some ⟨w.heap.size + 1, 0, none⟩)]] w' fun e w'' => e = .returned (.bool b) ∧ w' = w'' := by
    intro w' hw'
    have h1 : w'.cell? ⟨w.heap.size + 1, 0, none⟩ = some (.slice (some ⟨w.heap.size, 0, none⟩) 2 2) := by
      have h0 : w'.heap[w.heap.size + 1]? = some (.cells #[.slice (some ⟨w.heap.size, 0, none⟩) 2 2] 89 (0, 0)) := by
        rw [hw']
        have := heap_alloc_new (w.alloc (.cells #[.func (.func 69) #[] #[], .func (.func 72) #[] #[]] 61)) (.cells #[.slice (some ⟨w.heap.size, 0, none⟩) 2 2] 89)
        simpa using this
      rw [(rd h0).1]; rfl
    have h2 : w'.heap[w.heap.size]? = some (.cells #[.func (.func 69) #[] #[], .func (.func 72) #[] #[]] 61 (0, 0)) := by
      rw [hw']; exact heap_alloc (heap_alloc_new w _) _
    obtain ⟨hc, _⟩ := rd h2
    refine long_any s 40 83 #[] _ (fun c => isLetter c || isDigit c) b w' h63 enters_any1 (fun c => ?_) hb
    refine (any1_any c (w.heap.size + 1) w.heap.size 2 [isLetter, isDigit] w' h1 (by simp) ?_).mono ?_
    · intro i hi
      match i, hi with
      | 0, _ => exact ⟨_, hc 0, _, _, _, rfl, enters_letter, fun c => letter_any c w'⟩
      | 1, _ => exact ⟨_, hc 1, _, _, _, rfl, enters_digit, fun c => digit_any c w'⟩
      | n + 2, hi => exact absurd hi (by simp)
    · rintro e w'' ⟨rfl, rfl⟩
      exact ⟨ret_bool (by simp), rfl⟩
  have HH := Lib.hid HA; clear HA hb
  have HB := Lib.hid hB; clear hB
  go_enter Tryd.func43, Tryd.ntmps43
  go_wp2_with (first
    | (go_at_call 71; refine (any_any _ _ _ _).mono ?_; rintro e w' ⟨rfl, rfl⟩)
    | (go_at_call 68; refine ((HH.out _ (by simp)).mono ?_); rintro e w' ⟨rfl, rfl⟩))
  go_ret
  exact ⟨rfl, HB.out⟩
end Go.Proofs.YtbgjpglnikbflaaDoor
