/-
  Package chars: Long.
-/
import Derived.Test.YtdpnahojhmkemaaGreatDoorCharsB
import Derived.Shelf.Abstract
namespace Go.Proofs.YtdpnahojhmkemaaGreatDoor
open Go Go.RowKit
set_option linter.unusedVariables false
set_option maxRecDepth 100000

/-- What Long comes to. -/
def longB (s : Str) (n : Int) (p : UInt8 → Bool) : Bool := !s.isEmpty && decide ((s.length : Int) ≤ n) && s.all p

set_option maxHeartbeats 400000 in
theorem long_any (s : ByteArray) (n : Int) (f : FuncId) (fr cap : Array Value) (p : UInt8 → Bool) (b : Bool) (w : World) (h63 : s.size ≤ 9223372036854775807)
    (HE : ∀ args w, (callFunc f args).run Tryz.prog w = .ok (.enter f args) w)
    (H : ∀ c : UInt8, Calls Tryz.prog f (fr.push (.int .u8 c.toNat) ++ cap) w fun e w' => e = .returned (.bool (p c)) ∧ w = w') (hb : longB s.data.toList n p = b) :
    Calls Tryz.prog 100 #[.string s, .int .i64 n, .func (.func f) fr cap] w fun e w' => e = .returned (.bool b) ∧ w = w' := by
  by_cases h0 : s.size = 0
  · have := str_nil h0
    subst this
    have : b = false := hb.symm
    subst this
    clear hb h0
    have HH := Lib.hid H; clear H
    go_enter Tryz.func100, Tryz.ntmps100
    go_wp2
    go_ret
    exact ⟨rfl, rfl⟩
  · obtain ⟨n1, n2, n3, n4⟩ := str_ne h0
    have hne : s.data.toList.isEmpty = false := by rw [← ByteArray.toList_eq]; exact n1
    have hlen : s.data.toList.length = s.size := by simp
    unfold longB at hb
    rw [hne, hlen] at hb
    clear hne hlen
    by_cases hn : (s.size : Int) ≤ n
    · have hd : decide ((s.size : Int) ≤ n) = true := by simpa using hn
      rw [hd] at hb
      simp only [Bool.not_false, Bool.true_and] at hb
      have HA := Lib.hid (all_b s f fr cap p b w h63 HE H hb)
      clear hb H HE
      go_enter Tryz.func100, Tryz.ntmps100
      go_wp2_with (go_at_call 131; refine HA.out.mono ?_; rintro e w' ⟨rfl, rfl⟩)
      go_ret
      exact ⟨rfl, rfl⟩
    · have hd : decide ((s.size : Int) ≤ n) = false := by simpa using hn
      rw [hd] at hb
      have : b = false := hb.symm
      subst this
      clear hb H HE
      go_enter Tryz.func100, Tryz.ntmps100
      go_wp2
      go_ret
      exact ⟨rfl, rfl⟩

end Go.Proofs.YtdpnahojhmkemaaGreatDoor
