/-
  matinslaw7: LinesWrong's walk.
-/
import Derived.Test.YtbgjpglnikbflaaDoorLaw7P
import Derived.Test.YtbgjpglnikbflaaDoorLawLn
import Derived.Test.YtbgjpglnikbflaaDoorMask
namespace Go.Proofs.YtbgjpglnikbflaaDoor
open Go Go.RowKit
set_option linter.unusedVariables false
set_option maxRecDepth 100000

theorem bad0 {l : List Ln} (h : mayS l = true) (more : Str) (hlen : (writeS l).length + more.length ≤ 19000) : parseS (writeS l ++ [110, 111, 116, 104, 105, 110, 103] ++ 10 :: more) = .error (9, (textR none l).length + 1) :=
  parse_bad h more (by decide) (by decide) (fun sec => rfl) (by decide) (by simp; omega)
theorem bad1 {l : List Ln} (h : mayS l = true) (more : Str) (hlen : (writeS l).length + more.length ≤ 19000) : parseS (writeS l ++ [91, 85, 110, 105, 116] ++ 10 :: more) = .error (10, (textR none l).length + 1) :=
  parse_bad h more (by decide) (by decide) (fun sec => rfl) (by decide) (by simp; omega)
theorem bad2 {l : List Ln} (h : mayS l = true) (more : Str) (hlen : (writeS l).length + more.length ≤ 19000) : parseS (writeS l ++ [91, 93] ++ 10 :: more) = .error (10, (textR none l).length + 1) :=
  parse_bad h more (by decide) (by decide) (fun sec => rfl) (by decide) (by simp; omega)
theorem bad3 {l : List Ln} (h : mayS l = true) (more : Str) (hlen : (writeS l).length + more.length ≤ 19000) : parseS (writeS l ++ [61, 120] ++ 10 :: more) = .error (9, (textR none l).length + 1) :=
  parse_bad h more (by decide) (by decide) (fun sec => rfl) (by decide) (by simp; omega)
theorem bad4 {l : List Ln} (h : mayS l = true) (more : Str) (hlen : (writeS l).length + more.length ≤ 19000) : parseS (writeS l ++ [97, 32, 98, 61, 99] ++ 10 :: more) = .error (9, (textR none l).length + 1) :=
  parse_bad h more (by decide) (by decide) (fun sec => rfl) (by decide) (by simp; omega)
theorem bad5 {l : List Ln} (h : mayS l = true) (more : Str) (hlen : (writeS l).length + more.length ≤ 19000) : parseS (writeS l ++ [65, 61, 1] ++ 10 :: more) = .error (1, (textR none l).length + 1) :=
  parse_bad h more (by decide) (by decide) (fun sec => rfl) (by decide) (by simp; omega)
theorem bad6 {l : List Ln} (h : mayS l = true) (more : Str) (hlen : (writeS l).length + more.length ≤ 19000) : parseS (writeS l ++ [91, 85, 93, 120] ++ 10 :: more) = .error (10, (textR none l).length + 1) :=
  parse_bad h more (by decide) (by decide) (fun sec => rfl) (by decide) (by simp; omega)
theorem nls_snoc (s : Str) (c : UInt8) : nls (s ++ [c]) = nls s + if c == 10 then 1 else 0 := by
  unfold nls
  rw [List.count_append, List.count_singleton]

set_option maxHeartbeats 8000000 in
theorem wrong_walk (oa : Option Addr) (cap : Nat) (l : List Ln) (which : Int) (mb : ByteArray) (w : World) (h : LnRow w oa l) (hz : sumLn l ≤ 1048576) (hmb : mb.size ≤ 1048576) (hm : MaxAt w) :
    Calls Tryd.prog 8 #[.slice oa l.length cap, .int .i64 which, .string mb] w fun e w' => e = .returned (.bool true) ∧ Below w.heap.size w w' := by
  obtain ⟨hl, hx, hw⟩ := sumLn_small hz
  have HX := Lib.hid hx; clear hx
  have HR := Lib.hid h; clear h
  have g1 := guard_fault
  obtain ⟨s, hs⟩ : ∃ s, printS l = s := ⟨_, rfl⟩
  obtain ⟨sb, hsb⟩ : ∃ sb : ByteArray, sb = ⟨s.toArray⟩ := ⟨_, rfl⟩
  have hsbl : sb.data.toList = s := by rw [hsb]
  have hss : s.length ≤ 1000000000 := by
    rw [← hs]; unfold printS; split
    · exact hw
    · simp
  have hsbs : sb.size = s.length := by rw [hsb]; rfl
  have hsb1 : sb.size ≤ 1000000000 := by omega
  have HPr := fun w => Lib.hid (show LnRow w oa l → Calls Tryd.prog 16 #[.slice oa l.length cap] w fun e w' => e = .returned (.string sb) ∧ Below w.heap.size w w' from fun h => by
    rw [hsb]; exact print_any oa cap l w h hl HX.out hw s hs)
  cases hb : mayS l with
  | false =>
    have Hb := Lib.hid hb; clear hb
    clear hs hsb hsbl hsbs
    go_enter Tryd.func8, Tryd.ntmps8
    go_wp2_with fail
    refine (shown_any _ hm).mono ?_
    rintro e w1 ⟨rfl, hb1⟩
    have HB1 := Lib.hid hb1; clear hb1 hm
    go_wp2_with fail
    refine ((HPr _).out (HR.out.below HB1.out (Nat.le_refl _))).mono ?_
    rintro e w2 ⟨rfl, hb2⟩
    have HB2 := Lib.hid (HB1.out.trans (hb2.mono HB1.out.size)); clear hb2 HB1
    go_wp2_with fail
    refine (mayAll_any oa cap l _ (HR.out.below HB2.out (Nat.le_refl _)) hl HX.out hw _ Hb.out).mono ?_
    rintro e w3 ⟨rfl, hb3⟩
    have HB3 := Lib.hid (HB2.out.trans (hb3.mono HB2.out.size)); clear hb3 HB2
    go_wp2_with fail
    go_ret
    exact ⟨rfl, HB3.out⟩
  | true =>
    have hsw : s = writeS l := by rw [← hs]; unfold printS; rw [hb]; rfl
    by_cases hbig : 15000 < sb.size ∨ 1000 < mb.size
    · have Hb := Lib.hid hb; clear hb
      clear hs hsb hsbl hsbs hsw
      have key : (15000 : Int) < (sb.size : Int) ∨ (¬ (15000 : Int) < (sb.size : Int) ∧ (1000 : Int) < (mb.size : Int)) := by omega
      clear hbig
      rcases key with k1 | ⟨k1, k2⟩
      all_goals
        go_enter Tryd.func8, Tryd.ntmps8
        go_wp2_with fail
        refine (shown_any _ hm).mono ?_
        rintro e w1 ⟨rfl, hb1⟩
        have HB1 := Lib.hid hb1; clear hb1 hm
        go_wp2_with fail
        refine ((HPr _).out (HR.out.below HB1.out (Nat.le_refl _))).mono ?_
        rintro e w2 ⟨rfl, hb2⟩
        have HB2 := Lib.hid (HB1.out.trans (hb2.mono HB1.out.size)); clear hb2 HB1
        go_wp2_with fail
        refine (mayAll_any oa cap l _ (HR.out.below HB2.out (Nat.le_refl _)) hl HX.out hw _ Hb.out).mono ?_
        rintro e w3 ⟨rfl, hb3⟩
        have HB3 := Lib.hid (HB2.out.trans (hb3.mono HB2.out.size)); clear hb3 HB2
        go_wp2_with fail
        go_ret
        exact ⟨rfl, HB3.out⟩
    · have k1 : ¬ (15000 : Int) < (sb.size : Int) := by omega
      have k2 : ¬ (1000 : Int) < (mb.size : Int) := by omega
      have hnl : nls s = (textR none l).length := by rw [hsw]; exact nls_text l none (mayS_parts hb).1
      have HNl := Lib.hid hnl; clear hnl
      have hsl : sb.data.toList = writeS l := by rw [hsbl, hsw]
      have HSl := Lib.hid hsl; clear hsl
      have HSbl := Lib.hid hsbl; clear hsbl
      have Hb := Lib.hid hb; clear hb
      have hlm : (writeS l).length + mb.data.toList.length ≤ 19000 := by
        have : mb.data.toList.length = mb.size := by simp
        rw [← hsw, ← hsbs, this]; omega
      have HLm := Lib.hid hlm; clear hlm
      clear hs hsb hsbs hsw hbig
      obtain ⟨x, hx1, hx2⟩ := mask_i64 which 7 (by omega)
      have HX2 := Lib.hid (show bits .and .i64 which 7 = (x : Int) from hx2); clear hx2
      go_enter Tryd.func8, Tryd.ntmps8
      go_wp2_with fail
      refine (shown_any _ hm).mono ?_
      rintro e w1 ⟨rfl, hb1⟩
      have HB1 := Lib.hid hb1; clear hb1
      go_wp2_with fail
      refine ((HPr _).out (HR.out.below HB1.out (Nat.le_refl _))).mono ?_
      rintro e w2 ⟨rfl, hb2⟩
      have HB2 := Lib.hid (HB1.out.trans (hb2.mono HB1.out.size)); clear hb2 HB1
      go_wp2_with fail
      refine (mayAll_any oa cap l _ (HR.out.below HB2.out (Nat.le_refl _)) hl HX.out hw _ Hb.out).mono ?_
      rintro e w3 ⟨rfl, hb3⟩
      have HB3 := Lib.hid (HB2.out.trans (hb3.mono HB2.out.size)); clear hb3 HB2
      have hm3 := hm.below HB3.out; clear hm
      go_wp2_with fail
      go_loopg [8, 9] (sb.size + 1) (fun f a i wr => ∃ k n : Nat, k ≤ sb.size ∧ i = .int .i64 k ∧ a = .int .i64 n ∧ n ≤ k + 1 ∧ sb.size - k < f ∧ Hid (n = 1 + nls (sb.data.toList.take k)) ∧ w3 = wr)
      case atStart => exact ⟨0, 1, by omega, rfl, rfl, by omega, by omega, rfl, rfl⟩
      case round =>
        obtain ⟨k, n, hk, rfl, rfl, hnk, hfu, Hn, rfl⟩ := hrel
        by_cases hlt : k < sb.size
        · have hsn := take_snoc sb.data.toList k (by simpa using hlt)
          rw [get_list sb k hlt] at hsn
          have e10 : ((sb[k].toNat : Int) == 10) = (sb[k] == 10) := beqU' (by decide)
          cases hc : (sb[k] == 10) with
          | true =>
            have HT := Lib.hid (show n + 1 = 1 + nls (sb.data.toList.take (k + 1)) by rw [hsn, nls_snoc, hc, Hn.out]; simp; omega)
            rw [hc] at e10
            clear hsn hc
            go_wp2_with fail
            go_roundg (sb.size - k)
            case measure => omega
            case rel => exact ⟨k + 1, n + 1, by omega, by go_num, by go_num, by omega, by omega, HT, rfl⟩
          | false =>
            have HT := Lib.hid (show n = 1 + nls (sb.data.toList.take (k + 1)) by rw [hsn, nls_snoc, hc, Hn.out]; simp)
            rw [hc] at e10
            clear hsn hc
            go_wp2_with fail
            go_roundg (sb.size - k)
            case measure => omega
            case rel => exact ⟨k + 1, n, by omega, by go_num, rfl, by omega, by omega, HT, rfl⟩
        · have : k = sb.size := by omega
          subst this
          obtain ⟨N, hN⟩ : ∃ N, (textR none l).length + 1 = N := ⟨_, rfl⟩
          have hnN : n = N := by
            rw [Hn.out, List.take_of_length_le (by simp), HSbl.out, HNl.out, ← hN]; omega
          subst hnN
          have HN := Lib.hid hN; clear hN
          match x, hx1, HX2 with
          | 0, _, HX2 =>
            have hx2 : bits .and .i64 which 7 = 0 := HX2.out
            have HP := Lib.hid (show parseS (((sb ++ (⟨#[110, 111, 116, 104, 105, 110, 103]⟩ : ByteArray)) ++ ⟨#[10]⟩) ++ mb).data.toList = .error (9, n) by
              have h := bad0 Hb.out mb.data.toList HLm.out
              rw [HN.out] at h
              rw [Joins.data_append, Joins.data_append, Joins.data_append, HSl.out, ← h]
              simp)
            have r1 := run_eql_fault 9 n 9 n true (by simp)
            have hsz : (((sb ++ (⟨#[110, 111, 116, 104, 105, 110, 103]⟩ : ByteArray)) ++ ⟨#[10]⟩) ++ mb).size ≤ 1000000000 := by
              rw [ByteArray.size_append, ByteArray.size_append, ByteArray.size_append]; show sb.size + 7 + 1 + mb.size ≤ _; omega
            have HZ := Lib.hid hsz; clear hsz
            have ha1 : Below w3.heap.size w3 ((w3.alloc (.cells #[.string ⟨#[110, 111, 116, 104, 105, 110, 103]⟩, .string ⟨#[91, 85, 110, 105, 116]⟩, .string ⟨#[91, 93]⟩, .string ⟨#[61, 120]⟩, .string ⟨#[97, 32, 98, 61, 99]⟩, .string ⟨#[65, 61, 1]⟩, .string ⟨#[91, 85, 93, 120]⟩] 9)).alloc (.cells #[.int .i64 9, .int .i64 10, .int .i64 10, .int .i64 9, .int .i64 9, .int .i64 1, .int .i64 10] 24)) := ((Below.refl _ _).alloc (Nat.le_refl _) _).alloc (by simp) _
            have hm4 := hm3.below ha1
            have HB4 := Lib.hid (HB3.out.trans (ha1.mono HB3.out.size)); clear ha1
            go_wp2_with fail
            refine (parse_all _ _ hm4 HZ.out _ HP.out).mono ?_
            rintro e w5 ⟨hb5, rfl⟩
            have HB5 := Lib.hid (HB4.out.trans (hb5.mono HB4.out.size)); clear hb5 HB4
            unfold faultV
            have ha5 := (Below.refl w5.heap.size w5).alloc (Nat.le_refl _) (.cells #[.int .i64 9, .int .i64 n] 26)
            have HB6 := Lib.hid (HB5.out.trans (ha5.mono HB5.out.size)); clear ha5 HB5
            go_wp2_with fail
            go_ret
            exact ⟨rfl, HB6.out⟩
          | 1, _, HX2 =>
            have hx2 : bits .and .i64 which 7 = 1 := HX2.out
            have HP := Lib.hid (show parseS (((sb ++ (⟨#[91, 85, 110, 105, 116]⟩ : ByteArray)) ++ ⟨#[10]⟩) ++ mb).data.toList = .error (10, n) by
              have h := bad1 Hb.out mb.data.toList HLm.out
              rw [HN.out] at h
              rw [Joins.data_append, Joins.data_append, Joins.data_append, HSl.out, ← h]
              simp)
            have r1 := run_eql_fault 10 n 10 n true (by simp)
            have hsz : (((sb ++ (⟨#[91, 85, 110, 105, 116]⟩ : ByteArray)) ++ ⟨#[10]⟩) ++ mb).size ≤ 1000000000 := by
              rw [ByteArray.size_append, ByteArray.size_append, ByteArray.size_append]; show sb.size + 5 + 1 + mb.size ≤ _; omega
            have HZ := Lib.hid hsz; clear hsz
            have ha1 : Below w3.heap.size w3 ((w3.alloc (.cells #[.string ⟨#[110, 111, 116, 104, 105, 110, 103]⟩, .string ⟨#[91, 85, 110, 105, 116]⟩, .string ⟨#[91, 93]⟩, .string ⟨#[61, 120]⟩, .string ⟨#[97, 32, 98, 61, 99]⟩, .string ⟨#[65, 61, 1]⟩, .string ⟨#[91, 85, 93, 120]⟩] 9)).alloc (.cells #[.int .i64 9, .int .i64 10, .int .i64 10, .int .i64 9, .int .i64 9, .int .i64 1, .int .i64 10] 24)) := ((Below.refl _ _).alloc (Nat.le_refl _) _).alloc (by simp) _
            have hm4 := hm3.below ha1
            have HB4 := Lib.hid (HB3.out.trans (ha1.mono HB3.out.size)); clear ha1
            go_wp2_with fail
            refine (parse_all _ _ hm4 HZ.out _ HP.out).mono ?_
            rintro e w5 ⟨hb5, rfl⟩
            have HB5 := Lib.hid (HB4.out.trans (hb5.mono HB4.out.size)); clear hb5 HB4
            unfold faultV
            have ha5 := (Below.refl w5.heap.size w5).alloc (Nat.le_refl _) (.cells #[.int .i64 10, .int .i64 n] 26)
            have HB6 := Lib.hid (HB5.out.trans (ha5.mono HB5.out.size)); clear ha5 HB5
            go_wp2_with fail
            go_ret
            exact ⟨rfl, HB6.out⟩
          | 2, _, HX2 =>
            have hx2 : bits .and .i64 which 7 = 2 := HX2.out
            have HP := Lib.hid (show parseS (((sb ++ (⟨#[91, 93]⟩ : ByteArray)) ++ ⟨#[10]⟩) ++ mb).data.toList = .error (10, n) by
              have h := bad2 Hb.out mb.data.toList HLm.out
              rw [HN.out] at h
              rw [Joins.data_append, Joins.data_append, Joins.data_append, HSl.out, ← h]
              simp)
            have r1 := run_eql_fault 10 n 10 n true (by simp)
            have hsz : (((sb ++ (⟨#[91, 93]⟩ : ByteArray)) ++ ⟨#[10]⟩) ++ mb).size ≤ 1000000000 := by
              rw [ByteArray.size_append, ByteArray.size_append, ByteArray.size_append]; show sb.size + 2 + 1 + mb.size ≤ _; omega
            have HZ := Lib.hid hsz; clear hsz
            have ha1 : Below w3.heap.size w3 ((w3.alloc (.cells #[.string ⟨#[110, 111, 116, 104, 105, 110, 103]⟩, .string ⟨#[91, 85, 110, 105, 116]⟩, .string ⟨#[91, 93]⟩, .string ⟨#[61, 120]⟩, .string ⟨#[97, 32, 98, 61, 99]⟩, .string ⟨#[65, 61, 1]⟩, .string ⟨#[91, 85, 93, 120]⟩] 9)).alloc (.cells #[.int .i64 9, .int .i64 10, .int .i64 10, .int .i64 9, .int .i64 9, .int .i64 1, .int .i64 10] 24)) := ((Below.refl _ _).alloc (Nat.le_refl _) _).alloc (by simp) _
            have hm4 := hm3.below ha1
            have HB4 := Lib.hid (HB3.out.trans (ha1.mono HB3.out.size)); clear ha1
            go_wp2_with fail
            refine (parse_all _ _ hm4 HZ.out _ HP.out).mono ?_
            rintro e w5 ⟨hb5, rfl⟩
            have HB5 := Lib.hid (HB4.out.trans (hb5.mono HB4.out.size)); clear hb5 HB4
            unfold faultV
            have ha5 := (Below.refl w5.heap.size w5).alloc (Nat.le_refl _) (.cells #[.int .i64 10, .int .i64 n] 26)
            have HB6 := Lib.hid (HB5.out.trans (ha5.mono HB5.out.size)); clear ha5 HB5
            go_wp2_with fail
            go_ret
            exact ⟨rfl, HB6.out⟩
          | 3, _, HX2 =>
            have hx2 : bits .and .i64 which 7 = 3 := HX2.out
            have HP := Lib.hid (show parseS (((sb ++ (⟨#[61, 120]⟩ : ByteArray)) ++ ⟨#[10]⟩) ++ mb).data.toList = .error (9, n) by
              have h := bad3 Hb.out mb.data.toList HLm.out
              rw [HN.out] at h
              rw [Joins.data_append, Joins.data_append, Joins.data_append, HSl.out, ← h]
              simp)
            have r1 := run_eql_fault 9 n 9 n true (by simp)
            have hsz : (((sb ++ (⟨#[61, 120]⟩ : ByteArray)) ++ ⟨#[10]⟩) ++ mb).size ≤ 1000000000 := by
              rw [ByteArray.size_append, ByteArray.size_append, ByteArray.size_append]; show sb.size + 2 + 1 + mb.size ≤ _; omega
            have HZ := Lib.hid hsz; clear hsz
            have ha1 : Below w3.heap.size w3 ((w3.alloc (.cells #[.string ⟨#[110, 111, 116, 104, 105, 110, 103]⟩, .string ⟨#[91, 85, 110, 105, 116]⟩, .string ⟨#[91, 93]⟩, .string ⟨#[61, 120]⟩, .string ⟨#[97, 32, 98, 61, 99]⟩, .string ⟨#[65, 61, 1]⟩, .string ⟨#[91, 85, 93, 120]⟩] 9)).alloc (.cells #[.int .i64 9, .int .i64 10, .int .i64 10, .int .i64 9, .int .i64 9, .int .i64 1, .int .i64 10] 24)) := ((Below.refl _ _).alloc (Nat.le_refl _) _).alloc (by simp) _
            have hm4 := hm3.below ha1
            have HB4 := Lib.hid (HB3.out.trans (ha1.mono HB3.out.size)); clear ha1
            go_wp2_with fail
            refine (parse_all _ _ hm4 HZ.out _ HP.out).mono ?_
            rintro e w5 ⟨hb5, rfl⟩
            have HB5 := Lib.hid (HB4.out.trans (hb5.mono HB4.out.size)); clear hb5 HB4
            unfold faultV
            have ha5 := (Below.refl w5.heap.size w5).alloc (Nat.le_refl _) (.cells #[.int .i64 9, .int .i64 n] 26)
            have HB6 := Lib.hid (HB5.out.trans (ha5.mono HB5.out.size)); clear ha5 HB5
            go_wp2_with fail
            go_ret
            exact ⟨rfl, HB6.out⟩
          | 4, _, HX2 =>
            have hx2 : bits .and .i64 which 7 = 4 := HX2.out
            have HP := Lib.hid (show parseS (((sb ++ (⟨#[97, 32, 98, 61, 99]⟩ : ByteArray)) ++ ⟨#[10]⟩) ++ mb).data.toList = .error (9, n) by
              have h := bad4 Hb.out mb.data.toList HLm.out
              rw [HN.out] at h
              rw [Joins.data_append, Joins.data_append, Joins.data_append, HSl.out, ← h]
              simp)
            have r1 := run_eql_fault 9 n 9 n true (by simp)
            have hsz : (((sb ++ (⟨#[97, 32, 98, 61, 99]⟩ : ByteArray)) ++ ⟨#[10]⟩) ++ mb).size ≤ 1000000000 := by
              rw [ByteArray.size_append, ByteArray.size_append, ByteArray.size_append]; show sb.size + 5 + 1 + mb.size ≤ _; omega
            have HZ := Lib.hid hsz; clear hsz
            have ha1 : Below w3.heap.size w3 ((w3.alloc (.cells #[.string ⟨#[110, 111, 116, 104, 105, 110, 103]⟩, .string ⟨#[91, 85, 110, 105, 116]⟩, .string ⟨#[91, 93]⟩, .string ⟨#[61, 120]⟩, .string ⟨#[97, 32, 98, 61, 99]⟩, .string ⟨#[65, 61, 1]⟩, .string ⟨#[91, 85, 93, 120]⟩] 9)).alloc (.cells #[.int .i64 9, .int .i64 10, .int .i64 10, .int .i64 9, .int .i64 9, .int .i64 1, .int .i64 10] 24)) := ((Below.refl _ _).alloc (Nat.le_refl _) _).alloc (by simp) _
            have hm4 := hm3.below ha1
            have HB4 := Lib.hid (HB3.out.trans (ha1.mono HB3.out.size)); clear ha1
            go_wp2_with fail
            refine (parse_all _ _ hm4 HZ.out _ HP.out).mono ?_
            rintro e w5 ⟨hb5, rfl⟩
            have HB5 := Lib.hid (HB4.out.trans (hb5.mono HB4.out.size)); clear hb5 HB4
            unfold faultV
            have ha5 := (Below.refl w5.heap.size w5).alloc (Nat.le_refl _) (.cells #[.int .i64 9, .int .i64 n] 26)
            have HB6 := Lib.hid (HB5.out.trans (ha5.mono HB5.out.size)); clear ha5 HB5
            go_wp2_with fail
            go_ret
            exact ⟨rfl, HB6.out⟩
          | 5, _, HX2 =>
            have hx2 : bits .and .i64 which 7 = 5 := HX2.out
            have HP := Lib.hid (show parseS (((sb ++ (⟨#[65, 61, 1]⟩ : ByteArray)) ++ ⟨#[10]⟩) ++ mb).data.toList = .error (1, n) by
              have h := bad5 Hb.out mb.data.toList HLm.out
              rw [HN.out] at h
              rw [Joins.data_append, Joins.data_append, Joins.data_append, HSl.out, ← h]
              simp)
            have r1 := run_eql_fault 1 n 1 n true (by simp)
            have hsz : (((sb ++ (⟨#[65, 61, 1]⟩ : ByteArray)) ++ ⟨#[10]⟩) ++ mb).size ≤ 1000000000 := by
              rw [ByteArray.size_append, ByteArray.size_append, ByteArray.size_append]; show sb.size + 3 + 1 + mb.size ≤ _; omega
            have HZ := Lib.hid hsz; clear hsz
            have ha1 : Below w3.heap.size w3 ((w3.alloc (.cells #[.string ⟨#[110, 111, 116, 104, 105, 110, 103]⟩, .string ⟨#[91, 85, 110, 105, 116]⟩, .string ⟨#[91, 93]⟩, .string ⟨#[61, 120]⟩, .string ⟨#[97, 32, 98, 61, 99]⟩, .string ⟨#[65, 61, 1]⟩, .string ⟨#[91, 85, 93, 120]⟩] 9)).alloc (.cells #[.int .i64 9, .int .i64 10, .int .i64 10, .int .i64 9, .int .i64 9, .int .i64 1, .int .i64 10] 24)) := ((Below.refl _ _).alloc (Nat.le_refl _) _).alloc (by simp) _
            have hm4 := hm3.below ha1
            have HB4 := Lib.hid (HB3.out.trans (ha1.mono HB3.out.size)); clear ha1
            go_wp2_with fail
            refine (parse_all _ _ hm4 HZ.out _ HP.out).mono ?_
            rintro e w5 ⟨hb5, rfl⟩
            have HB5 := Lib.hid (HB4.out.trans (hb5.mono HB4.out.size)); clear hb5 HB4
            unfold faultV
            have ha5 := (Below.refl w5.heap.size w5).alloc (Nat.le_refl _) (.cells #[.int .i64 1, .int .i64 n] 26)
            have HB6 := Lib.hid (HB5.out.trans (ha5.mono HB5.out.size)); clear ha5 HB5
            go_wp2_with fail
            go_ret
            exact ⟨rfl, HB6.out⟩
          | 6, _, HX2 =>
            have hx2 : bits .and .i64 which 7 = 6 := HX2.out
            have HP := Lib.hid (show parseS (((sb ++ (⟨#[91, 85, 93, 120]⟩ : ByteArray)) ++ ⟨#[10]⟩) ++ mb).data.toList = .error (10, n) by
              have h := bad6 Hb.out mb.data.toList HLm.out
              rw [HN.out] at h
              rw [Joins.data_append, Joins.data_append, Joins.data_append, HSl.out, ← h]
              simp)
            have r1 := run_eql_fault 10 n 10 n true (by simp)
            have hsz : (((sb ++ (⟨#[91, 85, 93, 120]⟩ : ByteArray)) ++ ⟨#[10]⟩) ++ mb).size ≤ 1000000000 := by
              rw [ByteArray.size_append, ByteArray.size_append, ByteArray.size_append]; show sb.size + 4 + 1 + mb.size ≤ _; omega
            have HZ := Lib.hid hsz; clear hsz
            have ha1 : Below w3.heap.size w3 ((w3.alloc (.cells #[.string ⟨#[110, 111, 116, 104, 105, 110, 103]⟩, .string ⟨#[91, 85, 110, 105, 116]⟩, .string ⟨#[91, 93]⟩, .string ⟨#[61, 120]⟩, .string ⟨#[97, 32, 98, 61, 99]⟩, .string ⟨#[65, 61, 1]⟩, .string ⟨#[91, 85, 93, 120]⟩] 9)).alloc (.cells #[.int .i64 9, .int .i64 10, .int .i64 10, .int .i64 9, .int .i64 9, .int .i64 1, .int .i64 10] 24)) := ((Below.refl _ _).alloc (Nat.le_refl _) _).alloc (by simp) _
            have hm4 := hm3.below ha1
            have HB4 := Lib.hid (HB3.out.trans (ha1.mono HB3.out.size)); clear ha1
            go_wp2_with fail
            refine (parse_all _ _ hm4 HZ.out _ HP.out).mono ?_
            rintro e w5 ⟨hb5, rfl⟩
            have HB5 := Lib.hid (HB4.out.trans (hb5.mono HB4.out.size)); clear hb5 HB4
            unfold faultV
            have ha5 := (Below.refl w5.heap.size w5).alloc (Nat.le_refl _) (.cells #[.int .i64 10, .int .i64 n] 26)
            have HB6 := Lib.hid (HB5.out.trans (ha5.mono HB5.out.size)); clear ha5 HB5
            go_wp2_with fail
            go_ret
            exact ⟨rfl, HB6.out⟩
          | 7, _, HX2 =>
            have hx2 : bits .and .i64 which 7 = 7 := HX2.out
            have HP := Lib.hid (show parseS (((sb ++ (⟨#[110, 111, 116, 104, 105, 110, 103]⟩ : ByteArray)) ++ ⟨#[10]⟩) ++ mb).data.toList = .error (9, n) by
              have h := bad0 Hb.out mb.data.toList HLm.out
              rw [HN.out] at h
              rw [Joins.data_append, Joins.data_append, Joins.data_append, HSl.out, ← h]
              simp)
            have r1 := run_eql_fault 9 n 9 n true (by simp)
            have hsz : (((sb ++ (⟨#[110, 111, 116, 104, 105, 110, 103]⟩ : ByteArray)) ++ ⟨#[10]⟩) ++ mb).size ≤ 1000000000 := by
              rw [ByteArray.size_append, ByteArray.size_append, ByteArray.size_append]; show sb.size + 7 + 1 + mb.size ≤ _; omega
            have HZ := Lib.hid hsz; clear hsz
            have ha1 : Below w3.heap.size w3 ((w3.alloc (.cells #[.string ⟨#[110, 111, 116, 104, 105, 110, 103]⟩, .string ⟨#[91, 85, 110, 105, 116]⟩, .string ⟨#[91, 93]⟩, .string ⟨#[61, 120]⟩, .string ⟨#[97, 32, 98, 61, 99]⟩, .string ⟨#[65, 61, 1]⟩, .string ⟨#[91, 85, 93, 120]⟩] 9)).alloc (.cells #[.int .i64 9, .int .i64 10, .int .i64 10, .int .i64 9, .int .i64 9, .int .i64 1, .int .i64 10] 24)) := ((Below.refl _ _).alloc (Nat.le_refl _) _).alloc (by simp) _
            have hm4 := hm3.below ha1
            have HB4 := Lib.hid (HB3.out.trans (ha1.mono HB3.out.size)); clear ha1
            go_wp2_with fail
            refine (parse_all _ _ hm4 HZ.out _ HP.out).mono ?_
            rintro e w5 ⟨hb5, rfl⟩
            have HB5 := Lib.hid (HB4.out.trans (hb5.mono HB4.out.size)); clear hb5 HB4
            unfold faultV
            have ha5 := (Below.refl w5.heap.size w5).alloc (Nat.le_refl _) (.cells #[.int .i64 9, .int .i64 n] 26)
            have HB6 := Lib.hid (HB5.out.trans (ha5.mono HB5.out.size)); clear ha5 HB5
            go_wp2_with fail
            go_ret
            exact ⟨rfl, HB6.out⟩
          | x + 8, h, _ => omega
end Go.Proofs.YtbgjpglnikbflaaDoor
