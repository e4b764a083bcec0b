/-
  Package lines: text, May, Print.
-/
import Derived.Test.YtbgjpglnikbflaaDoorLinesB
import Derived.Test.YtbgjpglnikbflaaDoorLinesN
namespace Go.Proofs.YtbgjpglnikbflaaDoor
open Go Go.RowKit
set_option linter.unusedVariables false
set_option maxRecDepth 100000

theorem infoLine4 : (Tryd.prog.info? 34).map (fun i => i.size) = some 4 := by kernel_rfl

/-- The place of the first line that may not be; -1. -/
def OutIx (w : World) (b : Bool) (e : Ending) (w' : World) : Prop := (∃ n : Int, e = .returned (.int .i64 n) ∧ (decide (0 ≤ n)) = !b) ∧ Below w.heap.size w w'

set_option maxHeartbeats 2000000 in
theorem indexFunc_any (oa : Option Addr) (cap : Nat) (l : List Ln) (w : World) (h : LnRow w oa l) (hl : l.length ≤ 100000000) (hx : ∀ x ∈ l, LnSmall x) (b : Bool) (hb : l.all mayLn = b) :
    Calls Tryd.prog 49 #[.slice oa l.length cap, .func (.func 31) #[] #[]] w fun e w' => OutIx w b e w' := by
  have HX := Lib.hid hx; clear hx
  have HR := Lib.hid h; clear h
  have Hb := Lib.hid hb; clear hb
  have hE := fun args w => enters_of Tryd.func31 (by kernel_rfl) rfl args w
  go_enter Tryd.func49, Tryd.ntmps49
  go_wp2_with fail
  go_loopg [5, 8] (l.length + 1) (fun f _ i wr => ∃ k : Nat, k ≤ l.length ∧ i = .int .i64 k ∧ l.length - k < f ∧ Hid ((l.take k).all mayLn = true) ∧ Hid (Below w.heap.size w wr))
  case atStart => exact ⟨0, by omega, rfl, by omega, rfl, Below.refl _ _⟩
  case round =>
    obtain ⟨k, hk, rfl, hfu, Ha, HB⟩ := hrel
    by_cases hlt : k < l.length
    · obtain ⟨bb, o, rfl, c0, c1, c2, c3⟩ := (HR.out.below HB.out (Nat.le_refl _)) k hlt
      have hxk := HX.out l[k] (List.getElem_mem _)
      have HC := fun (b : Bool) (hb : mayLn l[k] = b) (wr : World) => Lib.hid (may1_any l[k] hxk wr b hb)
      cases hm : mayLn l[k] with
      | false =>
        have HR2 := Lib.hid (show b = false by
          rw [← Hb.out, List.all_eq_false]; exact ⟨l[k], List.getElem_mem _, by simp [hm]⟩)
        have HM := Lib.hid hm; clear hm
        go_wp2_with fail
        refine (HC false HM.out _).out.mono ?_
        rintro e w3 ⟨rfl, hb3⟩
        have HB3 := Lib.hid (HB.out.trans (hb3.mono HB.out.size)); clear hb3
        go_wp2_with fail
        go_ret
        exact ⟨⟨(k : Int), rfl, by rw [HR2.out]; simp⟩, HB3.out⟩
      | true =>
        have HT := Lib.hid (show (l.take (k + 1)).all mayLn = true by
          rw [List.take_succ_eq_append_getElem hlt, List.all_append, Ha.out]; simp [hm])
        have HM := Lib.hid hm; clear hm
        go_wp2_with fail
        refine (HC true HM.out _).out.mono ?_
        rintro e w3 ⟨rfl, hb3⟩
        have HB3 := Lib.hid (HB.out.trans (hb3.mono HB.out.size)); clear hb3
        go_wp2_with fail
        go_roundg (l.length - k)
        case measure => omega
        case rel => exact ⟨k + 1, by omega, by go_num, by omega, HT, HB3⟩
    · have : k = l.length := by omega
      subst this
      have ha := Ha.out
      rw [List.take_length] at ha
      have HR2 := Lib.hid (show b = true by rw [← Hb.out, ha]); clear ha
      go_wp2_with fail
      go_ret
      exact ⟨⟨-1, rfl, by rw [HR2.out]; rfl⟩, HB.out⟩

set_option maxHeartbeats 1000000 in
theorem containsFunc_any (oa : Option Addr) (cap : Nat) (l : List Ln) (w : World) (h : LnRow w oa l) (hl : l.length ≤ 100000000) (hx : ∀ x ∈ l, LnSmall x) (b : Bool) (hb : l.all mayLn = b) :
    Calls Tryd.prog 30 #[.slice oa l.length cap, .func (.func 31) #[] #[]] w fun e w' => e = .returned (.bool (!b)) ∧ Below w.heap.size w w' := by
  have HC := Lib.hid (indexFunc_any oa cap l w h hl hx b hb)
  clear h hx hb
  go_enter Tryd.func30, Tryd.ntmps30
  go_wp2_with fail
  refine HC.out.mono ?_
  rintro e w2 ⟨⟨n, rfl, hn⟩, hb2⟩
  have HN := Lib.hid hn; clear hn
  go_wp2_with fail
  go_ret
  exact ⟨ret_bool HN.out, hb2⟩
end Go.Proofs.YtbgjpglnikbflaaDoor
