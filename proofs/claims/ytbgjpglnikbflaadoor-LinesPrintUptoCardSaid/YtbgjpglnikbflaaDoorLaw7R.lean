/-
  matinslaw7: LinesPrint's walk.
-/
import Derived.Test.YtbgjpglnikbflaaDoorLaw7P
import Derived.Test.YtbgjpglnikbflaaDoorRef7G
import Derived.Test.YtbgjpglnikbflaaDoorLawLn
namespace Go.Proofs.YtbgjpglnikbflaaDoor
open Go Go.RowKit
set_option linter.unusedVariables false
set_option maxRecDepth 100000

set_option maxHeartbeats 2000000 in
theorem print_walk (oa : Option Addr) (cap : Nat) (l : List Ln) (w : World) (h : LnRow w oa l) (hz : sumLn l ≤ 1048576) (hm : MaxAt w) :
    Calls Tryd.prog 4 #[.slice oa l.length cap] w fun e w' => e = .returned (.bool true) ∧ Below w.heap.size w w' := by
  obtain ⟨hl, hx, hw⟩ := sumLn_small hz
  have HX := Lib.hid hx; clear hx
  have HR := Lib.hid h; clear h
  obtain ⟨b, hb⟩ : ∃ b, mayS l = b := ⟨_, rfl⟩
  obtain ⟨s, hs⟩ : ∃ s, printS l = s := ⟨_, rfl⟩
  have Hb := Lib.hid hb; clear hb
  have Hs := Lib.hid hs; clear hs
  have hbb : (b == b) = true := by simp
  go_enter Tryd.func4, Tryd.ntmps4
  go_wp2_with fail
  refine (shown_any _ hm).mono ?_
  rintro e w1 ⟨rfl, hb1⟩
  have HB1 := Lib.hid hb1; clear hb1 hm
  go_wp2_with fail
  refine (mayAll_any oa cap l _ (HR.out.below HB1.out (Nat.le_refl _)) hl HX.out hw b Hb.out).mono ?_
  rintro e w2 ⟨rfl, hb2⟩
  have HB2 := Lib.hid (HB1.out.trans (hb2.mono HB1.out.size)); clear hb2 HB1
  go_wp2_with fail
  refine (mayLinesR_any oa cap l _ (HR.out.below HB2.out (Nat.le_refl _)) hl HX.out hw b Hb.out).mono ?_
  rintro e w3 ⟨rfl, hb3⟩
  have HB3 := Lib.hid (HB2.out.trans (hb3.mono HB2.out.size)); clear hb3 HB2
  go_wp2_with fail
  refine (print_any oa cap l _ (HR.out.below HB3.out (Nat.le_refl _)) hl HX.out hw s Hs.out).mono ?_
  rintro e w4 ⟨rfl, hb4⟩
  have HB4 := Lib.hid (HB3.out.trans (hb4.mono HB3.out.size)); clear hb4 HB3
  go_wp2_with fail
  refine (printR_any oa cap l _ (HR.out.below HB4.out (Nat.le_refl _)) hl HX.out hw s Hs.out).mono ?_
  rintro e w5 ⟨rfl, hb5⟩
  have HB5 := Lib.hid (HB4.out.trans (hb5.mono HB4.out.size)); clear hb5 HB4
  go_wp2_with fail
  go_ret
  exact ⟨ret_bool (by simp), HB5.out⟩
end Go.Proofs.YtbgjpglnikbflaaDoor
