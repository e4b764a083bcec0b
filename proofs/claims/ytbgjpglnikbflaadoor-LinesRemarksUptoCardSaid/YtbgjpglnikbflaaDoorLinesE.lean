/-
  Package lines: May, Print.
-/
import Derived.Test.YtbgjpglnikbflaaDoorLinesD
namespace Go.Proofs.YtbgjpglnikbflaaDoor
open Go Go.RowKit
set_option linter.unusedVariables false
set_option maxRecDepth 100000

set_option maxHeartbeats 1000000 in
theorem mayAll_any (oa : Option Addr) (cap : Nat) (l : List Ln) (w : World) (h : LnRow w oa l) (hl : l.length ≤ 100000000) (hx : ∀ x ∈ l, LnSmall x) (hw : (writeS l).length ≤ 1000000000) (b : Bool) (hb : mayS l = b) :
    Calls Tryd.prog 14 #[.slice oa l.length cap] w fun e w' => e = .returned (.bool b) ∧ Below w.heap.size w w' := by
  have HX := Lib.hid hx; clear hx
  have HR := Lib.hid h; clear h
  unfold mayS at hb
  cases ha : l.all mayLn with
  | false =>
    rw [ha] at hb
    have HB := Lib.hid (show b = false from hb.symm); clear hb
    have HC := Lib.hid (containsFunc_any oa cap l w HR.out hl HX.out false ha)
    clear ha
    go_enter Tryd.func14, Tryd.ntmps14
    go_wp2_with fail
    refine HC.out.mono ?_
    rintro e w2 ⟨rfl, hb2⟩
    go_wp2_with fail
    go_ret
    exact ⟨by rw [HB.out]; rfl, hb2⟩
  | true =>
    rw [ha, Bool.true_and] at hb
    have HC := Lib.hid (containsFunc_any oa cap l w HR.out hl HX.out true ha)
    have HB := Lib.hid hb; clear hb ha
    go_enter Tryd.func14, Tryd.ntmps14
    go_wp2_with fail
    refine HC.out.mono ?_
    rintro e w2 ⟨rfl, hb2⟩
    have HT := Lib.hid (text_any oa cap l w2 (HR.out.below hb2 (Nat.le_refl _)) hl HX.out hw)
    go_wp2_with fail
    refine HT.out.mono ?_
    rintro e w3 ⟨rfl, hb3⟩
    have HB3 := Lib.hid (hb2.trans (hb3.mono hb2.size)); clear hb3 hb2
    generalize hs : writeS l = s at *
    have Hs := Lib.hid hs; clear hs
    go_wp2_with fail
    go_ret
    refine ⟨ret_bool ?_, HB3.out⟩
    rw [← HB.out, decide_eq_decide]
    show ((s.length : Int) ≤ 20000) ↔ _
    omega

set_option maxHeartbeats 1000000 in
theorem print_any (oa : Option Addr) (cap : Nat) (l : List Ln) (w : World) (h : LnRow w oa l) (hl : l.length ≤ 100000000) (hx : ∀ x ∈ l, LnSmall x) (hw : (writeS l).length ≤ 1000000000) (s : Str) (hs : printS l = s) :
    Calls Tryd.prog 16 #[.slice oa l.length cap] w fun e w' => e = .returned (.string ⟨s.toArray⟩) ∧ Below w.heap.size w w' := by
  unfold printS at hs
  cases hm : mayS l with
  | false =>
    rw [hm] at hs
    have HS := Lib.hid (show s = [] from hs.symm); clear hs
    have HC := Lib.hid (mayAll_any oa cap l w h hl hx hw false hm)
    clear hm hx h
    go_enter Tryd.func16, Tryd.ntmps16
    go_wp2_with fail
    refine HC.out.mono ?_
    rintro e w2 ⟨rfl, hb2⟩
    go_wp2_with fail
    go_ret
    exact ⟨by rw [HS.out]; rfl, hb2⟩
  | true =>
    rw [hm] at hs
    have HS := Lib.hid (show s = writeS l from hs.symm); clear hs
    have HC := Lib.hid (mayAll_any oa cap l w h hl hx hw true hm)
    have HR := Lib.hid h
    have HX := Lib.hid hx
    clear hm hx h
    go_enter Tryd.func16, Tryd.ntmps16
    go_wp2_with fail
    refine HC.out.mono ?_
    rintro e w2 ⟨rfl, hb2⟩
    have HT := Lib.hid (text_any oa cap l w2 (HR.out.below hb2 (Nat.le_refl _)) hl HX.out hw)
    go_wp2_with fail
    refine HT.out.mono ?_
    rintro e w3 ⟨rfl, hb3⟩
    have HB3 := Lib.hid (hb2.trans (hb3.mono hb2.size)); clear hb3 hb2
    go_wp2_with fail
    go_ret
    exact ⟨by rw [HS.out]; rfl, HB3.out⟩
end Go.Proofs.YtbgjpglnikbflaaDoor
