/-
  matinslaw7: LinesPrefix's walk.
-/
import Derived.Test.YtbgjpglnikbflaaDoorLaw7P
import Derived.Test.YtbgjpglnikbflaaDoorLawLn
import Derived.Test.YtbgjpglnikbflaaDoorMask
namespace Go.Proofs.YtbgjpglnikbflaaDoor
open Go Go.RowKit
set_option linter.unusedVariables false
set_option maxRecDepth 100000

theorem LnRow.take {w : World} {oa : Option Addr} {l : List Ln} (h : LnRow w oa l) (k : Nat) : LnRow w oa (l.take k) := by
  intro i hi
  simp at hi
  obtain ⟨b, o, e, h0, h1, h2, h3⟩ := h i (by omega)
  refine ⟨b, o, e, ?_, ?_, ?_, ?_⟩ <;> simpa
theorem sumLn_take : ∀ (l : List Ln) (k : Nat), sumLn (l.take k) ≤ sumLn l
  | [], k => by simp [sumLn]
  | x :: r, 0 => by simp [sumLn]
  | x :: r, k + 1 => by have := sumLn_take r k; simp only [List.take_succ_cons, sumLn]; omega

set_option maxHeartbeats 2000000 in
theorem prefix_walk (oa : Option Addr) (cap : Nat) (l : List Ln) (at_ : Int) (w : World) (h : LnRow w oa l) (hz : sumLn l ≤ 1048576) (hcap : l.length ≤ cap) (hm : MaxAt w) :
    Calls Tryd.prog 9 #[.slice oa l.length cap, .int .i64 at_] w fun e w' => e = .returned (.bool true) ∧ Below w.heap.size w w' := by
  obtain ⟨hl, hx, hw⟩ := sumLn_small hz
  have HX := Lib.hid hx; clear hx
  have HR := Lib.hid h; clear h
  cases hb : mayS l with
  | false =>
    have Hb := Lib.hid hb; clear hb
    go_enter Tryd.func9, Tryd.ntmps9
    go_wp2_with fail
    refine (shown_any _ hm).mono ?_
    rintro e w1 ⟨rfl, hb1⟩
    have HB1 := Lib.hid hb1; clear hb1 hm
    go_wp2_with fail
    refine (mayAll_any oa cap l _ (HR.out.below HB1.out (Nat.le_refl _)) hl HX.out hw _ Hb.out).mono ?_
    rintro e w3 ⟨rfl, hb3⟩
    have HB3 := Lib.hid (HB1.out.trans (hb3.mono HB1.out.size)); clear hb3 HB1
    go_wp2_with fail
    go_ret
    exact ⟨rfl, HB3.out⟩
  | true =>
    have Hb := Lib.hid hb
    obtain ⟨x, hx1, hx2⟩ := mask_i64 at_ 65535 (by omega)
    obtain ⟨k, hk⟩ : ∃ k, x % (l.length + 1) = k := ⟨_, rfl⟩
    have hkl : k ≤ l.length := by have := Nat.mod_lt x (show 0 < l.length + 1 by omega); omega
    have hlk : (l.take k).length = k := by simp; omega
    obtain ⟨hl2, hxs, hw2⟩ := sumLn_small (Nat.le_trans (sumLn_take l k) hz)
    have HX2 := Lib.hid hxs; clear hxs
    have hb2 := may_take hb k
    have Hs := Lib.hid (show printS l = writeS l by unfold printS; rw [hb]; rfl)
    have Hs2 := Lib.hid (show printS (l.take k) = writeS (l.take k) by unfold printS; rw [hb2]; rfl)
    have Hb2 := Lib.hid hb2
    have hpre := text_take l none k
    have hq1 : ((x : Int) % ((l.length : Int) + 1)) = (k : Int) := by rw [← hk]; simp
    have hq2 : ((x : Int).tmod ((l.length : Int) + 1)) = (k : Int) := by rw [Int.tmod_eq_emod_of_nonneg (by omega)]; exact hq1
    have hx2' : bits .and .i64 at_ 65535 = (x : Int) := hx2
    have Hlk := Lib.hid hlk
    have hple := hpre.length_le
    have HPre := Lib.hid hpre
    clear hb hb2 hk hlk hpre hx2
    go_enter Tryd.func9, Tryd.ntmps9
    go_wp2_with fail
    refine (shown_any _ hm).mono ?_
    rintro e w1 ⟨rfl, hb1⟩
    have HB1 := Lib.hid hb1; clear hb1 hm
    go_wp2_with fail
    refine (mayAll_any oa cap l _ (HR.out.below HB1.out (Nat.le_refl _)) hl HX.out hw _ Hb.out).mono ?_
    rintro e w3 ⟨rfl, hb3⟩
    have HB3 := Lib.hid (HB1.out.trans (hb3.mono HB1.out.size)); clear hb3 HB1
    have hh := print_any oa cap (l.take k) w3 ((HR.out.below HB3.out (Nat.le_refl _)).take k) hl2 HX2.out hw2 _ Hs2.out
    rw [Hlk.out] at hh
    have HH := Lib.hid hh; clear hh
    go_wp2_with fail
    refine HH.out.mono ?_
    rintro e w4 ⟨rfl, hb4⟩
    have HB4 := Lib.hid (HB3.out.trans (hb4.mono HB3.out.size)); clear hb4 HB3 HH
    go_wp2_with fail
    refine (print_any oa cap l _ (HR.out.below HB4.out (Nat.le_refl _)) hl HX.out hw _ Hs.out).mono ?_
    rintro e w5 ⟨rfl, hb5⟩
    have HB5 := Lib.hid (HB4.out.trans (hb5.mono HB4.out.size)); clear hb5 HB4
    have hh := mayAll_any oa cap (l.take k) w5 ((HR.out.below HB5.out (Nat.le_refl _)).take k) hl2 HX2.out hw2 _ Hb2.out
    rw [Hlk.out] at hh
    have HH := Lib.hid hh; clear hh
    unfold writeS at *
    go_wp2_with fail
    refine HH.out.mono ?_
    rintro e w6 ⟨rfl, hb6⟩
    have HB6 := Lib.hid (HB5.out.trans (hb6.mono HB5.out.size)); clear hb6 HB5 HH
    obtain ⟨sa, hsa⟩ : ∃ sa : ByteArray, sa = ⟨(textS none (l.take k)).toArray⟩ := ⟨_, rfl⟩
    obtain ⟨ta, hta⟩ : ∃ ta : ByteArray, ta = ⟨(textS none l).toArray⟩ := ⟨_, rfl⟩
    rw [← hsa, ← hta]
    have hle : sa.size ≤ ta.size := by rw [hsa, hta]; exact hple
    have hle' : (sa.size : Int) ≤ (ta.size : Int) := by omega
    have hex : ta.extract 0 sa.size = sa := by
      apply bytes_ext
      rw [Lib.extract_data, hta, hsa]
      simp
      obtain ⟨r, hr⟩ := HPre.out
      rw [← hr]
      simp [ByteArray.size]
    clear hsa hta hple
    go_wp2_with fail
    go_ret
    exact ⟨rfl, HB6.out⟩
end Go.Proofs.YtbgjpglnikbflaaDoor
