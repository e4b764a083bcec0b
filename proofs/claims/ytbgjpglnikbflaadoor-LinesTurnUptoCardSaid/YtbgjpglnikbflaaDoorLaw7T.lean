/-
  matinslaw7: LinesTurn's walk.
-/
import Derived.Test.YtbgjpglnikbflaaDoorLaw7P
import Derived.Test.YtbgjpglnikbflaaDoorLawLn
namespace Go.Proofs.YtbgjpglnikbflaaDoor
open Go Go.RowKit
set_option linter.unusedVariables false
set_option maxRecDepth 100000

theorem numS_rise {l : List Ln} {p : Option Str} {n : Nat} : ∀ i (h1 : i + 1 < (numS p l n).length), ((numS p l n)[i]'(by omega)).at_ < ((numS p l n)[i + 1]'h1).at_ := by
  have key : ∀ (m : List Ln) (k : Int), risingFrom k m → ∀ i (h1 : i + 1 < m.length), (m[i]'(by omega)).at_ < (m[i + 1]'h1).at_ := by
    intro m
    induction m with
    | nil => intro k _ i h1; simp at h1
    | cons x r ih =>
      intro k hr i h1
      cases i with
      | zero =>
        cases r with
        | nil => simp at h1
        | cons y r => exact hr.2.1
      | succ i => exact ih x.at_ hr.2 i (by simpa using h1)
  exact key _ _ (num_rising l p n)

set_option maxHeartbeats 2000000 in
theorem turn_walk7 (oa : Option Addr) (cap : Nat) (l : List Ln) (w : World) (h : LnRow w oa l) (hz : sumLn l ≤ 1048576) (hm : MaxAt w) :
    Calls Tryd.prog 5 #[.slice oa l.length cap] w fun e w' => e = .returned (.bool true) ∧ Below w.heap.size w w' := by
  obtain ⟨hl, hx, hw⟩ := sumLn_small hz
  have HX := Lib.hid hx; clear hx
  have HR := Lib.hid h; clear h
  have g1 := guard_fault
  cases hb : mayS l with
  | false =>
    have Hs := Lib.hid (show printS l = [] by unfold printS; rw [hb]; rfl)
    have Hb := Lib.hid hb; clear hb
    go_enter Tryd.func5, Tryd.ntmps5
    go_wp2_with fail
    refine (shown_any _ hm).mono ?_
    rintro e w1 ⟨rfl, hb1⟩
    have HB1 := Lib.hid hb1; clear hb1 hm
    go_wp2_with fail
    refine (print_any oa cap l _ (HR.out.below HB1.out (Nat.le_refl _)) hl HX.out hw _ Hs.out).mono ?_
    rintro e w2 ⟨rfl, hb2⟩
    have HB2 := Lib.hid (HB1.out.trans (hb2.mono HB1.out.size)); clear hb2 HB1
    go_wp2_with fail
    refine (mayAll_any oa cap l _ (HR.out.below HB2.out (Nat.le_refl _)) hl HX.out hw _ Hb.out).mono ?_
    rintro e w3 ⟨rfl, hb3⟩
    have HB3 := Lib.hid (HB2.out.trans (hb3.mono HB2.out.size)); clear hb3 HB2
    go_wp2_with fail
    go_ret
    exact ⟨rfl, HB3.out⟩
  | true =>
    have h20 := (mayS_parts hb).2
    obtain ⟨m, hpw, hsame, hrise⟩ : ∃ m, parseS (writeS l) = .ok m ∧ sameLns l m ∧ ∀ i (h1 : i + 1 < m.length), (m[i]'(by omega)).at_ < (m[i + 1]'h1).at_ := ⟨numS none l 0, parse_write hb, num_same l none 0, numS_rise⟩
    have Hs := Lib.hid (show printS l = writeS l by unfold printS; rw [hb]; rfl)
    have Hb := Lib.hid hb; clear hb
    have hml := parse_len hpw
    generalize hs0 : writeS l = s at hpw Hs h20
    clear hs0
    have HP := Lib.hid hpw; clear hpw
    have HS := Lib.hid hsame; clear hsame
    have HI := Lib.hid hrise; clear hrise
    have r1 := run_eql_fault 0 0 0 0 true (by decide)
    go_enter Tryd.func5, Tryd.ntmps5
    go_wp2_with fail
    refine (shown_any _ hm).mono ?_
    rintro e w1 ⟨rfl, hb1⟩
    have HB1 := Lib.hid hb1; clear hb1
    go_wp2_with fail
    refine (print_any oa cap l _ (HR.out.below HB1.out (Nat.le_refl _)) hl HX.out hw _ Hs.out).mono ?_
    rintro e w2 ⟨rfl, hb2⟩
    have HB2 := Lib.hid (HB1.out.trans (hb2.mono HB1.out.size)); clear hb2 HB1
    go_wp2_with fail
    refine (mayAll_any oa cap l _ (HR.out.below HB2.out (Nat.le_refl _)) hl HX.out hw _ Hb.out).mono ?_
    rintro e w3 ⟨rfl, hb3⟩
    have HB3 := Lib.hid (HB2.out.trans (hb3.mono HB2.out.size)); clear hb3 HB2
    have hm3 := hm.below HB3.out; clear hm
    go_wp2_with fail
    refine (parse_all ⟨s.toArray⟩ _ hm3 (by show s.length ≤ _; omega) _ HP.out).mono ?_
    rintro e w4 ⟨hb4, v, rfl, hv⟩
    obtain ⟨ob, capm, rfl⟩ := ownsRow_form hv
    have HM4 := Lib.hid (LnRow.of_own hv)
    have HB4 := Lib.hid (HB3.out.trans (hb4.mono HB3.out.size)); clear hb4 HB3 hm3 hv
    unfold faultV
    go_wp2_with fail
    have ha := (Below.refl w4.heap.size w4).alloc (Nat.le_refl _) (.cells #[.int .i64 0, .int .i64 0] 26)
    have hp := heap_alloc_new w4 (.cells #[.int .i64 0, .int .i64 0] 26)
    have HMa := Lib.hid (HM4.out.below ha (Nat.le_refl _)); clear HM4
    generalize w4.alloc (.cells #[.int .i64 0, .int .i64 0] 26) = wa at *
    generalize w4.heap.size = P1 at hp ⊢
    have HBa := Lib.hid (HB4.out.trans (ha.mono HB4.out.size)); clear HB4 ha
    have Hp := Lib.hid hp; clear hp
    go_loopg [6] (m.length + 1) (fun f i wr => ∃ k : Nat, 1 ≤ k ∧ k ≤ m.length + 1 ∧ i = .int .i64 k ∧ m.length + 1 - k < f ∧ ∃ n, wr = wa.drewN n)
    case atStart => exact ⟨1, by omega, by omega, rfl, by omega, 0, rfl⟩
    case round =>
      obtain ⟨k, hk1, hk, rfl, hfu, n, rfl⟩ := hrel
      by_cases hlt : k < m.length
      · obtain ⟨b1, o1, rfl, -, -, -, c3⟩ := HMa.out k hlt
        obtain ⟨b2, o2, e2, -, -, -, d3⟩ := HMa.out (k - 1) (by omega)
        injection e2 with e2; injection e2 with e2 e3; subst e2; subst e3
        have hr := HI.out (k - 1) (by omega)
        have i0 : (k - 1 + 1) = k := by omega
        simp only [i0] at hr
        have i1 : ((k : Int) - 1).toNat = k - 1 := by omega
        have i2 : 0 ≤ (k : Int) - 1 := by omega
        have i3 : (k : Int) - 1 < (m.length : Int) := by omega
        have hnl : ¬ (m[k].at_ ≤ (m[k - 1]'(by omega)).at_) := by omega
        clear hr
        go_wp2_with fail
        go_quiet (fail)
        go_wp2_with fail
        go_roundg (m.length + 1 - k)
        case measure => omega
        case rel => exact ⟨k + 1, by omega, by omega, by go_num, by omega, (by first | exact dn0 _ | exact dn_trans (dn _ _) | exact dn _ _)⟩
      · obtain ⟨f0, f1, -⟩ := fault_cells (show (wa.drewN n).heap[P1]? = _ from Hp.out)
        have HBd := Lib.hid (show Below w.heap.size w (wa.drewN n) from ⟨HBa.out.os, HBa.out.tape, HBa.out.output, HBa.out.size, HBa.out.block⟩)
        have HMd := Lib.hid (show LnRow (wa.drewN n) ob m from HMa.out)
        generalize wa.drewN n = wd at *
        go_wp2_with fail
        refine (same_yes oa ob cap capm l m _ (HR.out.below HBd.out (Nat.le_refl _)) HMd.out hl HS.out).mono ?_
        rintro e w5 ⟨rfl, hb5⟩
        have HB5 := Lib.hid (HBd.out.trans (hb5.mono HBd.out.size)); clear hb5 HBd
        go_wp2_with fail
        go_ret
        exact ⟨rfl, HB5.out⟩
end Go.Proofs.YtbgjpglnikbflaaDoor
