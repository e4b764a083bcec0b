import Derived.Deep.LoopGhost
import Derived.Lib.SmallJoins
import Derived.Test.YtdpnahojhmkemaaGreatDoorKP2
import Derived.Test.YtdpnahojhmkemaaGreatDoorKP9
namespace Go.Proofs.YtdpnahojhmkemaaGreatDoor
open Go Go.RowKit
set_option linter.unusedVariables false
set_option maxRecDepth 100000
set_option maxHeartbeats 400000 in
theorem bad_any (c : UInt8) (w : World) :
  Calls Tryz.prog 166 #[.int .u8 c.toNat] w fun e w' => e = .returned (.bool (isBad c)) ∧ w = w' := by
 go_enter Tryz.func166, Tryz.ntmps166
 go_wp2
 all_goals
  go_ret
  refine ⟨ret_bool ?_, rfl⟩
  rw [isBad_iff, Bool.eq_iff_iff]
  simp
  omega
end Go.Proofs.YtdpnahojhmkemaaGreatDoor
namespace Go.Proofs.YtdpnahojhmkemaaGreatDoor
open Go Go.RowKit
set_option linter.unusedVariables false
set_option maxRecDepth 100000
theorem idx2 (a b c : UInt8) : (0 ≤ Lib.indexByte [a, b] c) ↔ (c = a ∨ c = b) := by
 simp only [Lib.indexByte]
 by_cases h1 : a = c
 ·simp [h1]
 ·by_cases h2 : b = c
  ·subst h2; simp [h1]
  ·simp [h1, h2]
   exact ⟨fun e => h1 e.symm, fun e => h2 e.symm⟩
set_option maxHeartbeats 400000 in
theorem blank_any (c : UInt8) (w : World) :
  Calls Tryz.prog 144 #[.int .u8 c.toNat] w fun e w' => e = .returned (.bool (isBlank c)) ∧ w = w' := by
 go_enter Tryz.func144, Tryz.ntmps144
 go_wp2_with (go_at_call 152; refine (Tryz.strings_IndexByte _ _ _).mono ?_; rintro e w' ⟨rfl, rfl⟩)
 go_ret
 refine ⟨ret_bool ?_, rfl⟩
 rw [isBlank_iff, decide_eq_decide, idx2, ← UInt8.toNat_inj, ← UInt8.toNat_inj]
 simp
 omega
abbrev hexes : List UInt8 := [48, 49, 50, 51, 52, 53, 54, 55, 56, 57, 97, 98, 99, 100, 101, 102]
theorem hexIdx (c : UInt8) : Lib.indexByte hexes c = match hexOf c with | some n => (n : Int) | none => -1 := by
 have := u8_forall (p := fun c => decide (Lib.indexByte hexes c = match hexOf c with | some n => (n : Int) | none => -1)) (by decide +kernel) c
 exact of_decide_eq_true this
theorem hexOf_lt {c : UInt8} {n : Nat} (h : hexOf c = some n) : n < 16 := by
 have := u8_forall (p := fun c => match hexOf c with | some n => decide (n < 16) | none => true) (by decide +kernel) c
 rw [h] at this
 exact of_decide_eq_true this
theorem or16 (x y : Nat) (hx : x < 16) (hy : y < 16) : bits BinOp.or IntKind.i64 ((x : Int) * 16) y % 256 = ((UInt8.ofNat (16 * x + y)).toNat : Int) := by
 have h : (List.range 16).all (fun x => (List.range 16).all fun y => decide (bits BinOp.or IntKind.i64 ((x : Int) * 16) y % 256 = ((UInt8.ofNat (16 * x + y)).toNat : Int))) = true := by decide +kernel
 have h1 := List.all_eq_true.1 h x (List.mem_range.2 hx)
 have h2 := List.all_eq_true.1 h1 y (List.mem_range.2 hy)
 exact of_decide_eq_true h2
def twoV (l : List UInt8) : Value := match twoOf l with
 | some d => .tuple #[.int .u8 d.toNat, .bool true]
 | none => .tuple #[.int .u8 0, .bool false]
set_option maxHeartbeats 400000 in
theorem two_short (s : ByteArray) (w : World) (h : s.size < 2) :
  Calls Tryz.prog 178 #[.string s] w fun e w' => e = .returned (.tuple #[.int .u8 0, .bool false]) ∧ w = w' := by
 go_enter Tryz.func178, Tryz.ntmps178
 go_wp2
 go_ret2
 exact ⟨rfl, rfl⟩
set_option maxHeartbeats 400000 in
theorem two_long (s : ByteArray) (w : World) (h : 2 ≤ s.size) (h63 : s.size ≤ 9223372036854775807) :
  Calls Tryz.prog 178 #[.string s] w fun e w' => e = .returned (twoV [s[0], s[1]]) ∧ ∃ n, w' = w.drewN n := by
 have h0 : 0 < s.size := by omega
 have h1 : (1 : Int) < (s.size : Int) := by omega
 have e0 := hexIdx s[0]
 have e1 := hexIdx s[1]
 have l0 := @hexOf_lt s[0]
 have l1 := @hexOf_lt s[1]
 unfold twoV
 simp only [twoOf]
 cases hx : hexOf s[0] with
 | none =>
  rw [hx] at e0
  simp only at e0
  clear l0 l1 e1 hx
  go_enter Tryz.func178, Tryz.ntmps178
  go_wp2_with fail
  go_quiet ((go_at_call 152; exact Calls.quiet_of_same (Tryz.strings_IndexByte _ _ _)))
  go_wp2
  go_ret2
  exact ⟨rfl, _, rfl⟩
 | some x =>
  rw [hx] at e0
  simp only at e0
  have hx16 := l0 hx
  cases hy : hexOf s[1] with
  | none =>
   rw [hy] at e1
   simp only at e1
   clear l0 l1 hx hy
   go_enter Tryz.func178, Tryz.ntmps178
   go_wp2_with fail
   go_quiet ((go_at_call 152; exact Calls.quiet_of_same (Tryz.strings_IndexByte _ _ _)))
   go_wp2
   go_ret2
   exact ⟨rfl, _, rfl⟩
  | some y =>
   rw [hy] at e1
   simp only at e1
   have hy16 := l1 hy
   clear l0 l1 hx hy
   go_enter Tryz.func178, Tryz.ntmps178
   go_wp2_with fail
   go_quiet ((go_at_call 152; exact Calls.quiet_of_same (Tryz.strings_IndexByte _ _ _)))
   go_wp2
   go_ret2
   refine ⟨ret_val (by rw [← or16 x y hx16 hy16]; rfl), _, rfl⟩
theorem two_any (s : ByteArray) (w : World) (h63 : s.size ≤ 9223372036854775807) :
  Calls Tryz.prog 178 #[.string s] w fun e w' => e = .returned (twoV s.data.toList) ∧ ∃ n, w' = w.drewN n := by
 by_cases h : s.size < 2
 ·refine (two_short s w h).mono ?_
  rintro e w' ⟨rfl, rfl⟩
  refine ⟨?_, 0, rfl⟩
  obtain ⟨⟨d⟩⟩ := s
  match d, h with
  | [], _ => rfl
  | [a], _ => rfl
 ·refine (two_long s w (by omega) h63).mono ?_
  rintro e w' ⟨rfl, hw⟩
  refine ⟨?_, hw⟩
  obtain ⟨⟨d⟩⟩ := s
  match d, h with
  | a :: b :: r, _ => rfl
  | [], h => exact absurd (show 0 < 2 by decide) h
  | [a], h => exact absurd (show 1 < 2 by decide) h
theorem two_at (s : ByteArray) (w : World) (h63 : s.size ≤ 9223372036854775807) (l : List UInt8) (hl : s.data.toList = l) :
  Calls Tryz.prog 178 #[.string s] w fun e w' => e = .returned (.tuple #[.int .u8 ((twoOf l).getD 0).toNat, .bool (twoOf l).isSome]) ∧ ∃ n, w' = w.drewN n := by
 refine (two_any s w h63).mono ?_
 rintro e w' ⟨rfl, hw⟩
 refine ⟨?_, hw⟩
 rw [hl]; unfold twoV
 cases twoOf l <;> rfl
end Go.Proofs.YtdpnahojhmkemaaGreatDoor
namespace Go.Proofs.YtdpnahojhmkemaaGreatDoor
open Go Go.RowKit
set_option linter.unusedVariables false
def hexN (c : UInt8) : Nat := (hexOf c).getD 16
theorem hexN_le (c : UInt8) : hexN c ≤ 16 := by
 unfold hexN
 cases h : hexOf c with
 | none => simp
 | some n => have := hexOf_lt h; simp; omega
theorem hexes_at (i : Nat) (h : i < 16) : hexN (hexes[i]'(by simpa using h)) = i := by
 have : (List.range 16).all (fun i => match hexes[i]? with | some c => hexN c == i | none => false) = true := by decide +kernel
 have h1 := List.all_eq_true.1 this i (List.mem_range.2 h)
 rw [List.getElem?_eq_getElem (by simpa using h)] at h1
 exact eq_of_beq h1
theorem hexN_none (c : UInt8) (h : ∀ j (hj : j < 16), hexes[j]'(by simpa using hj) ≠ c) : hexN c = 16 := by
 have h1 := u8_forall (p := fun c => hexN c == 16 || hexes[hexN c]? == some c) (by decide +kernel) c
 rw [Bool.or_eq_true] at h1
 rcases h1 with h2 | h2
 ·exact eq_of_beq h2
 ·have h3 : hexes[hexN c]? = some c := eq_of_beq h2
  rcases Nat.lt_or_ge (hexN c) 16 with h4 | h4
  ·rw [List.getElem?_eq_getElem (by simpa using h4)] at h3
   injection h3 with h3
   exact absurd h3 (h _ h4)
  ·have := hexN_le c; omega
set_option maxHeartbeats 1000000 in
set_option maxRecDepth 100000 in
theorem hex_any (c : UInt8) (w : World) :
  Calls Tryz.prog 130 #[.int .u8 c.toNat] w fun e w' => e = .returned (.int .i64 (hexN c)) ∧ w = w' := by
 go_enter Tryz.func130, Tryz.ntmps130
 go_wp2
 go_loop [3] (fun i => ∃ k : Nat, k ≤ 16 ∧ i = .int .i64 k ∧ Hid (∀ j (hj : j < 16), j < k → hexes[j]'(by simpa using hj) ≠ c)) (fun i => 16 - (intOf i).toNat)
 case atStart => exact ⟨0, by omega, rfl, fun j _ h => absurd h (by omega)⟩
 case round =>
  obtain ⟨k, hk, rfl, Hq⟩ := hrel
  by_cases hlt : k < 16
  ·have hlt' : (k : Int) < 16 := by omega
   have hsz : k < (⟨#[48, 49, 50, 51, 52, 53, 54, 55, 56, 57, 97, 98, 99, 100, 101, 102]⟩ : ByteArray).size := hlt
   have hget : (⟨#[48, 49, 50, 51, 52, 53, 54, 55, 56, 57, 97, 98, 99, 100, 101, 102]⟩ : ByteArray)[k] = hexes[k]'(by simpa using hlt) := rfl
   cases hb : (((⟨#[48, 49, 50, 51, 52, 53, 54, 55, 56, 57, 97, 98, 99, 100, 101, 102]⟩ : ByteArray)[k].toNat : Int) == (c.toNat : Int)) with
   | true =>
    have hh : hexes[k]'(by simpa using hlt) = c := by rw [← hget]; exact UInt8.toNat_inj.1 (by have := eq_of_beq hb; omega)
    have HR := Lib.hid (show hexN c = k by rw [← hh]; exact hexes_at k hlt)
    clear hh hget
    go_wp2
    go_ret
    exact ⟨ret_int (by rw [HR.out]), rfl⟩
   | false =>
    have hh : hexes[k]'(by simpa using hlt) ≠ c := by
     rw [← hget]; intro e; rw [e] at hb; simp at hb
    have HR := Lib.hid (show ∀ j (hj : j < 16), j < k + 1 → hexes[j]'(by simpa using hj) ≠ c by
     intro j hj hjk
     rcases Nat.lt_or_ge j k with h1 | h1
     ·exact Hq.out j hj h1
     ·have : j = k := by omega
      subst this; exact hh)
    clear hh hget
    go_wp2
    go_round
    case rel => exact ⟨k + 1, by omega, by go_num, HR⟩
    case measure => simp [intOf]; omega
  ·have : k = 16 := by omega
   subst this
   have HR := Lib.hid (show hexN c = 16 from hexN_none c (fun j hj => Hq.out j hj hj))
   go_wp2
   go_ret
   exact ⟨ret_int (by rw [HR.out]; rfl), rfl⟩
end Go.Proofs.YtdpnahojhmkemaaGreatDoor
