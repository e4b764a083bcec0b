/-
  The reference's hexadecimal digits.
-/
import Derived.Test.YtlcimhchkbaieaaChars
import Derived.Deep.LoopGhost
import Derived.Lib.SmallJoins
namespace Go.Proofs.Ytlcimhchkbaieaa
open Go Go.RowKit
set_option linter.unusedVariables false

def hexN (c : UInt8) : Nat := (hexOf c).getD 16
theorem hexN_le (c : UInt8) : hexN c ≤ 16 := by
  unfold hexN
  cases h : hexOf c with
  | none => simp
  | some n => have := hexOf_lt h; simp; omega
theorem hexes_at (i : Nat) (h : i < 16) : hexN (hexes[i]'(by simpa using h)) = i := by
  have : (List.range 16).all (fun i => match hexes[i]? with | some c => hexN c == i | none => false) = true := by decide +kernel
  have h1 := List.all_eq_true.1 this i (List.mem_range.2 h)
  rw [List.getElem?_eq_getElem (by simpa using h)] at h1
  exact eq_of_beq h1
theorem hexN_none (c : UInt8) (h : ∀ j (hj : j < 16), hexes[j]'(by simpa using hj) ≠ c) : hexN c = 16 := by
  have h1 := u8_forall (p := fun c => hexN c == 16 || hexes[hexN c]? == some c) (by decide +kernel) c
  rw [Bool.or_eq_true] at h1
  rcases h1 with h2 | h2
  · exact eq_of_beq h2
  · have h3 : hexes[hexN c]? = some c := eq_of_beq h2
    rcases Nat.lt_or_ge (hexN c) 16 with h4 | h4
    · rw [List.getElem?_eq_getElem (by simpa using h4)] at h3
      injection h3 with h3
      exact absurd h3 (h _ h4)
    · have := hexN_le c; omega

set_option maxHeartbeats 1000000 in
set_option maxRecDepth 100000 in
theorem hex_any (c : UInt8) (w : World) :
    Calls Try.prog 32 #[.int .u8 c.toNat] w fun e w' => e = .returned (.int .i64 (hexN c)) ∧ w = w' := by
  go_enter Try.func32, Try.ntmps32
  go_wp2
  go_loop [3] (fun i => ∃ k : Nat, k ≤ 16 ∧ i = .int .i64 k ∧ Hid (∀ j (hj : j < 16), j < k → hexes[j]'(by simpa using hj) ≠ c)) (fun i => 16 - (intOf i).toNat)
  case atStart => exact ⟨0, by omega, rfl, fun j _ h => absurd h (by omega)⟩
  case round =>
    obtain ⟨k, hk, rfl, Hq⟩ := hrel
    by_cases hlt : k < 16
    · have hlt' : (k : Int) < 16 := by omega
      have hsz : k < (⟨#[48, 49, 50, 51, 52, 53, 54, 55, 56, 57, 97, 98, 99, 100, 101, 102]⟩ : ByteArray).size := hlt
      have hget : (⟨#[48, 49, 50, 51, 52, 53, 54, 55, 56, 57, 97, 98, 99, 100, 101, 102]⟩ : ByteArray)[k] = hexes[k]'(by simpa using hlt) := rfl
      cases hb : (((⟨#[48, 49, 50, 51, 52, 53, 54, 55, 56, 57, 97, 98, 99, 100, 101, 102]⟩ : ByteArray)[k].toNat : Int) == (c.toNat : Int)) with
      | true =>
        have hh : hexes[k]'(by simpa using hlt) = c := by rw [← hget]; exact UInt8.toNat_inj.1 (by have := eq_of_beq hb; omega)
        have HR := Lib.hid (show hexN c = k by rw [← hh]; exact hexes_at k hlt)
        clear hh hget
        go_wp2
        go_ret
        exact ⟨ret_int (by rw [HR.out]), rfl⟩
      | false =>
        have hh : hexes[k]'(by simpa using hlt) ≠ c := by
          rw [← hget]; intro e; rw [e] at hb; simp at hb
        have HR := Lib.hid (show ∀ j (hj : j < 16), j < k + 1 → hexes[j]'(by simpa using hj) ≠ c by
          intro j hj hjk
          rcases Nat.lt_or_ge j k with h1 | h1
          · exact Hq.out j hj h1
          · have : j = k := by omega
            subst this; exact hh)
        clear hh hget
        go_wp2
        go_round
        case rel => exact ⟨k + 1, by omega, by go_num, HR⟩
        case measure => simp [intOf]; omega
    · have : k = 16 := by omega
      subst this
      have HR := Lib.hid (show hexN c = 16 from hexN_none c (fun j hj => Hq.out j hj hj))
      go_wp2
      go_ret
      exact ⟨ret_int (by rw [HR.out]; rfl), rfl⟩

theorem hexDigits (c : UInt8) : ((⟨hexes.toArray⟩ : ByteArray).extract (c.toNat / 16) (c.toNat / 16 + 1) ++ (⟨hexes.toArray⟩ : ByteArray).extract (c.toNat % 16) (c.toNat % 16 + 1)) = ⟨(hexByte c).toArray⟩ := by
  apply bytes_ext
  have := u8_forall (p := fun c => decide (((⟨hexes.toArray⟩ : ByteArray).extract (c.toNat / 16) (c.toNat / 16 + 1) ++ (⟨hexes.toArray⟩ : ByteArray).extract (c.toNat % 16) (c.toNat % 16 + 1)).data.toList = hexByte c)) (by decide +kernel) c
  exact of_decide_eq_true this

set_option maxHeartbeats 1000000 in
theorem hexByte_any (c : UInt8) (w : World) :
    Calls Try.prog 40 #[.int .u8 c.toNat] w fun e w' => e = .returned (.string ⟨(hexByte c).toArray⟩) ∧ ∃ n, w' = w.drewN n := by
  have hc := UInt8.toNat_lt c
  have h1 : ((c.toNat : Int) / 16 + 1) % 256 = (c.toNat : Int) / 16 + 1 := by omega
  have h2 : 0 ≤ (c.toNat : Int) / 16 := by omega
  have h3 : (c.toNat : Int) / 16 + 1 ≤ 16 := by omega
  have h4 : 0 ≤ (c.toNat : Int) / 16 + 1 := by omega
  have h5 : (c.toNat : Int) / 16 ≤ (c.toNat : Int) / 16 + 1 := by omega
  have g1 : ((c.toNat : Int) % 16 + 1) % 256 = (c.toNat : Int) % 16 + 1 := by omega
  have g2 : 0 ≤ (c.toNat : Int) % 16 := by omega
  have g3 : (c.toNat : Int) % 16 + 1 ≤ 16 := by omega
  have g4 : 0 ≤ (c.toNat : Int) % 16 + 1 := by omega
  have g5 : (c.toNat : Int) % 16 ≤ (c.toNat : Int) % 16 + 1 := by omega
  go_enter Try.func40, Try.ntmps40
  go_wp2
  go_quiet (fail)
  go_wp2
  go_ret
  exact ⟨ret_val (congrArg Value.string (hexDigits c)), _, rfl⟩
end Go.Proofs.Ytlcimhchkbaieaa
