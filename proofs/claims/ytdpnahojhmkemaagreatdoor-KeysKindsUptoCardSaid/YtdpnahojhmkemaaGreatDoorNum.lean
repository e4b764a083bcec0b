/-
  strconv.Atoi of digits; package keys: Number, number.
-/
import Derived.Test.YtdpnahojhmkemaaGreatDoorNumS
import Derived.Test.YtdpnahojhmkemaaGreatDoorLong
import Derived.Test.YtdpnahojhmkemaaGreatDoorShelf
namespace Go.Proofs.YtdpnahojhmkemaaGreatDoor
open Go Go.RowKit
set_option linter.unusedVariables false
set_option linter.unusedSimpArgs false
set_option maxRecDepth 100000

theorem below_bytes (w : World) (e : TypeId) (s : ByteArray) : Below w.heap.size w (Lib.bytesWorld w e s) := by
  have h1 : Below w.heap.size w (w.drew.alloc (.cells (Lib.bytesCells w e s) e)) := (show Below w.heap.size w w.drew from below_dn ⟨1, rfl⟩).alloc (Nat.le_refl _) _
  have h2 : Fr (fun k => k = w.heap.size) w (Lib.bytesWorld w e s) := Fr.freeze (M := fun k => k = w.heap.size) (p := ⟨w.heap.size, (Lib.bytesCells w e s).size, none⟩) (Fr.of_below h1 _) (fun h => absurd h (by simp)) 1
  exact h2.below _ (Nat.le_refl _) (fun k hk e => by omega)
theorem atoi_any (s : ByteArray) (w : World) (h0 : s.data.toList ≠ []) (hs : s.size ≤ 18) (h : s.data.toList.all isDigit = true) (n : Nat) (hn : decS s.data.toList = n) :
    Calls Tryz.prog 102 #[.string s] w fun e w' => e = .returned (.tuple #[.int .i64 n, .nilIface]) ∧ Below w.heap.size w w' := by
  refine (Tryz.strconv_Atoi s n hs (by rw [atoi_digits _ h0 h, hn]) w).mono ?_
  rintro e w' ⟨rfl, t, rfl⟩
  exact ⟨rfl, below_bytes _ _ _⟩

/-- What Number says. -/
def numK (s : Str) : Int × Bool := if longB s 5 isDigit = true then (if decS s ≤ 65535 then ((decS s : Nat), true) else (0, false)) else (0, false)
theorem longB_true {s : Str} {n : Nat} {p : UInt8 → Bool} (h : longB s n p = true) : s ≠ [] ∧ s.length ≤ n ∧ s.all p = true := by
  unfold longB at h
  simp only [Bool.and_eq_true, decide_eq_true_eq] at h
  exact ⟨by intro e; subst e; simp at h, by omega, h.2⟩

set_option maxHeartbeats 1000000 in
theorem keysNumber_any (s : ByteArray) (w : World) (h63 : s.size ≤ 9223372036854775807) (v : Int) (b : Bool) (hv : numK s.data.toList = (v, b)) :
    Calls Tryz.prog 69 #[.string s] w fun e w' => e = .returned (.tuple #[.int .i64 v, .bool b]) ∧ Below w.heap.size w w' := by
  unfold numK at hv
  cases hl : longB s.data.toList 5 isDigit with
  | false =>
    rw [hl, if_neg (by simp)] at hv
    obtain ⟨rfl, rfl⟩ : 0 = v ∧ false = b := by simpa using hv
    have HL := Lib.hid (long_any s 5 101 #[] #[] isDigit false w h63 enters_digit (fun c => digit_any c w) hl)
    clear hv hl
    go_enter Tryz.func69, Tryz.ntmps69
    go_wp2_with fail
    refine HL.out.mono ?_
    rintro e w1 ⟨rfl, rfl⟩
    go_wp2_with fail
    go_ret2
    exact ⟨rfl, Below.refl _ _⟩
  | true =>
    rw [hl, if_pos rfl] at hv
    have HL := Lib.hid (long_any s 5 101 #[] #[] isDigit true w h63 enters_digit (fun c => digit_any c w) hl)
    obtain ⟨h0, h5, hd⟩ := longB_true (n := 5) hl
    have hsz : s.data.toList.length = s.size := by simp
    obtain ⟨n, hn⟩ : ∃ n, decS s.data.toList = n := ⟨_, rfl⟩
    have HA := Lib.hid (atoi_any s w h0 (by omega) hd n hn)
    rw [hn] at hv
    clear hl h0 h5 hd hn hsz
    by_cases hle : n ≤ 65535
    · rw [if_pos hle] at hv
      obtain ⟨rfl, rfl⟩ : (n : Int) = v ∧ true = b := by simpa using hv
      have hz : ¬ ((n : Int) > 65535) := by omega
      have hz2 : ¬ ((65535 : Int) < n) := by omega
      clear hv
      go_enter Tryz.func69, Tryz.ntmps69
      go_wp2_with fail
      refine HL.out.mono ?_
      rintro e w1 ⟨rfl, rfl⟩
      go_wp2_with fail
      refine HA.out.mono ?_
      rintro e w2 ⟨rfl, hb⟩
      have HB := Lib.hid hb; clear hb
      go_wp2_with fail
      go_ret2
      exact ⟨rfl, HB.out⟩
    · rw [if_neg hle] at hv
      obtain ⟨rfl, rfl⟩ : 0 = v ∧ false = b := by simpa using hv
      have hz : ((n : Int) > 65535) := by omega
      have hz2 : ((65535 : Int) < n) := by omega
      clear hv
      go_enter Tryz.func69, Tryz.ntmps69
      go_wp2_with fail
      refine HL.out.mono ?_
      rintro e w1 ⟨rfl, rfl⟩
      go_wp2_with fail
      refine HA.out.mono ?_
      rintro e w2 ⟨rfl, hb⟩
      have HB := Lib.hid hb; clear hb
      go_wp2_with fail
      go_ret2
      exact ⟨rfl, HB.out⟩
theorem keysnum_any (s : ByteArray) (w : World) (h63 : s.size ≤ 9223372036854775807) (b : Bool) (hv : (numK s.data.toList).2 = b) :
    Calls Tryz.prog 45 #[.string s] w fun e w' => e = .returned (.bool b) ∧ Below w.heap.size w w' := by
  obtain ⟨v, b', hvb⟩ : ∃ v b', numK s.data.toList = (v, b') := ⟨_, _, rfl⟩
  obtain rfl : b' = b := by rw [hvb] at hv; exact hv
  have H := Lib.hid (keysNumber_any s w h63 v b' hvb)
  clear hvb hv
  go_enter Tryz.func45, Tryz.ntmps45
  go_wp2_with fail
  refine H.out.mono ?_
  rintro e w1 ⟨rfl, hb⟩
  have HB := Lib.hid hb; clear hb
  go_wp2_with fail
  go_ret
  exact ⟨rfl, HB.out⟩
theorem enters_keysnum : ∀ args w, (callFunc 45 args).run Tryz.prog w = .ok (.enter 45 args) w := enters_of Tryz.func45 (by kernel_rfl) rfl
end Go.Proofs.YtdpnahojhmkemaaGreatDoor
