/-
  Package chars: the contract of All.
-/
import Derived.Test.YtdpnahojhmkemaaGreatDoorWordsS
import Derived.Test.YtdpnahojhmkemaaGreatDoorProg
import Derived.Test.YtdpnahojhmkemaaGreatDoorBase
import Derived.Deep.QuietTactic
import Derived.BigQuiet
import Derived.BigRegion
import Derived.Lib.Hide
namespace Go.Proofs.YtdpnahojhmkemaaGreatDoor
open Go Go.RowKit
set_option linter.unusedVariables false

theorem u8_cast (c : UInt8) : ((c.toNat : Int).toNat.toUInt8) = c := by simp

theorem isBlank_iff (c : UInt8) : isBlank c = decide ((c.toNat : Int) = 32 ∨ (c.toNat : Int) = 9) := by
  rw [Bool.eq_iff_iff]; simp [isBlank, ← UInt8.toNat_inj]; omega
theorem isBad_iff (c : UInt8) : isBad c = decide (((c.toNat : Int) < 32 ∧ (c.toNat : Int) ≠ 9) ∨ (c.toNat : Int) = 127) := by
  rw [Bool.eq_iff_iff]; simp [isBad, ← UInt8.toNat_inj, UInt8.lt_iff_toNat_lt]; omega

theorem bytes_ext {a b : ByteArray} (h : a.data.toList = b.data.toList) : a = b := by
  obtain ⟨⟨a⟩⟩ := a
  obtain ⟨⟨b⟩⟩ := b
  simp at h
  rw [h]
theorem take_snoc (l : List UInt8) (k : Nat) (h : k < l.length) : l.take (k + 1) = l.take k ++ [l[k]] := by
  rw [List.take_succ_eq_append_getElem h]

set_option maxHeartbeats 1000000 in
theorem all_any (s : ByteArray) (f : FuncId) (fr cap : Array Value) (p : UInt8 → Bool) (w : World) (h63 : s.size ≤ 9223372036854775807)
    (HE : ∀ args w, (callFunc f args).run Tryz.prog w = .ok (.enter f args) w)
    (H : ∀ c : UInt8, Calls Tryz.prog f (fr.push (.int .u8 c.toNat) ++ cap) w fun e w' => e = .returned (.bool (p c)) ∧ w = w') :
    Calls Tryz.prog 131 #[.string s, .func (.func f) fr cap] w fun e w' => e = .returned (.bool (s.data.toList.all p)) ∧ w = w' := by
  have HH := Lib.hid H; clear H
  go_enter Tryz.func131, Tryz.ntmps131
  go_wp2
  go_loop [5, 8] (fun _ i => ∃ k : Nat, k ≤ s.size ∧ i = .int .i64 k ∧ Hid ((s.data.toList.take k).all p = true)) (fun _ i => s.size - (intOf i).toNat)
  case atStart => exact ⟨0, Nat.zero_le _, rfl, by simp [Hid]⟩
  case round =>
    obtain ⟨k, hk, rfl, hall⟩ := hrel
    by_cases hlt : k < s.size
    · have hsn := take_snoc s.data.toList k (by simpa using hlt)
      have hgk : s.data.toList[k]'(by simpa using hlt) = s[k] := rfl
      rw [hgk] at hsn
      cases hp : p s[k] with
      | true =>
        have HT := Lib.hid (show (s.data.toList.take (k + 1)).all p = true by rw [hsn, List.all_append, hall.out]; simp [hp])
        have HP := Lib.hid hp
        clear hsn hgk hp
        go_wp2_with (refine (HH.out s[k]).mono ?_; rintro e w' ⟨rfl, rfl⟩; rw [HP.out])
        go_round
        case rel => exact ⟨k + 1, by omega, by go_num, HT⟩
        case measure => simp [intOf]; omega
      | false =>
        have HT := Lib.hid (show s.data.toList.all p = false by
          rw [List.all_eq_false]
          exact ⟨s[k], by rw [← hgk]; exact List.getElem_mem _, by simp [hp]⟩)
        have HP := Lib.hid hp
        clear hsn hgk hp
        go_wp2_with (refine (HH.out s[k]).mono ?_; rintro e w' ⟨rfl, rfl⟩; rw [HP.out])
        go_ret
        exact ⟨ret_bool HT.out.symm, rfl⟩
    · go_wp2
      go_ret
      have : k = s.size := by omega
      subst this
      have := hall.out
      rw [List.take_of_length_le (by simp)] at this
      refine ⟨ret_bool ?_, rfl⟩
      exact this.symm.trans (Array.all_toList )
end Go.Proofs.YtdpnahojhmkemaaGreatDoor
