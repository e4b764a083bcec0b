import Derived.Test.YtdpnahojhmkemaaGreatDoorKP5
import Derived.Test.YtdpnahojhmkemaaGreatDoorKP10
import Derived.Test.YtdpnahojhmkemaaGreatDoorKP20
import Derived.Test.YtdpnahojhmkemaaGreatDoorKP26
import Derived.Test.YtdpnahojhmkemaaGreatDoorKP27
namespace Go.Proofs.YtdpnahojhmkemaaGreatDoor
open Go Go.RowKit
set_option linter.unusedVariables false
set_option linter.unusedSimpArgs false
set_option maxRecDepth 100000
set_option maxHeartbeats 8000000 in
theorem spanRef_any (s : ByteArray) (w : World) (hs : s.size ≤ 1000000000) (v : Int) (b : Bool) (hv : spanS s.data.toList = (v, b)) :
  Calls Tryz.prog 34 #[.string s] w fun e w' => e = .returned (.tuple #[.int .i64 v, .bool b]) ∧ Below w.heap.size w w' := by
 obtain ⟨u, hu⟩ : ∃ u, u = s.data.toList := ⟨_, rfl⟩
 obtain rfl : s = ⟨u.toArray⟩ := by rw [hu]
 have hul : u.length ≤ 1000000000 := by simpa [ByteArray.size] using hs
 clear hu hs
 have hv' : spanS u = (v, b) := hv
 clear hv
 cases hi : (u == [105, 110, 102, 105, 110, 105, 116, 121]) with
 | true =>
  obtain rfl : u = [105, 110, 102, 105, 110, 105, 116, 121] := eq_of_beq hi
  obtain ⟨rfl, rfl⟩ : 1099511627776 = v ∧ true = b := by
   unfold spanS at hv'
   rw [if_pos rfl] at hv'
   simpa using hv'
  clear hv' hul hi
  go_enter Tryz.func34, Tryz.ntmps34
  go_wp2_with fail
  go_ret2
  exact ⟨rfl, Below.refl _ _⟩
 | false =>
  have hne : u ≠ [105, 110, 102, 105, 110, 105, 116, 121] := by rw [beq_eq_false_iff_ne] at hi; exact hi
  unfold spanS at hv'
  rw [if_neg hne] at hv'
  have HV := Lib.hid hv'
  have HW := Lib.hid (blanks1_any ⟨u.toArray⟩ ⟨#[32]⟩ w (by show u.toArray.size ≤ _; simp; omega) (by decide) (blanksS u) (fldB_one [32] rfl u []))
  have HM := Lib.hid (fldS_mem u.length u [] (by simp))
  have HLN := Lib.hid (blanksS_len u [])
  clear hv' hne
  go_enter Tryz.func34, Tryz.ntmps34
  go_wp2_with fail
  refine HW.out.mono ?_
  rintro e w1 ⟨hb1, vv, rfl, hown⟩
  obtain ⟨A, cap, rfl⟩ := ownsRow_form hown
  have HST := Lib.hid (StrRow.of_own hown); have HB1 := Lib.hid hb1
  obtain ⟨l, hl⟩ : ∃ l, l = blanksS u := ⟨_, rfl⟩
  have HL := Lib.hid (show ∀ x ∈ l, x.length ≤ 1000000000 from by rw [hl]; intro x hx; have := HM.out x hx; omega)
  have HLL := Lib.hid (show l.length ≤ 1000000001 from by rw [hl]; have := HLN.out; unfold blanksS; omega)
  simp only at *
  rw [← hl] at HST HV ⊢
  clear hown hb1 hl HW HM HLN
  go_wp2_with fail
  go_loopg [5, 17] (l.length + 1) (fun f t i wr => ∃ (k : Nat) (n : Int), k ≤ l.length ∧ i = .int .i64 k ∧ t = .int .i64 n ∧ l.length - k < f ∧ 0 ≤ n ∧ n ≤ 6311433600 ∧ Hid (Below w1.heap.size w1 wr) ∧ Hid (spanL (l.drop k) n = spanL l 0))
  case atStart => exact ⟨0, 0, by omega, rfl, rfl, by omega, by omega, by omega, Below.refl _ _, rfl⟩
  case round =>
   obtain ⟨k, n, hk, rfl, rfl, hfu, hn0, hn1, HB, HS⟩ := hrel
   have hll := HLL.out
   by_cases hlt : k < l.length
   ·have hz : (k : Int) < (l.length : Int) := by omega
    obtain ⟨b4, o4, rfl, d0⟩ := (HST.out.below HB.out) k hlt
    obtain ⟨x, hx⟩ : ∃ x, x = l[k] := ⟨_, rfl⟩
    rw [← hx] at d0
    obtain ⟨X, hX⟩ : ∃ X : ByteArray, X = ⟨x.toArray⟩ := ⟨_, rfl⟩
    have hXx : X.data.toList = x := by rw [hX]
    have hXs : X.size = x.length := by rw [hX]; simp [ByteArray.size]
    rw [← hX] at d0
    have hd : l.drop k = X.data.toList :: l.drop (k + 1) := by rw [hXx, hx]; exact List.drop_eq_getElem_cons hlt
    have hxl : X.size ≤ 1000000000 := by rw [hXs, hx]; exact HL.out _ (List.getElem_mem hlt)
    have HS1 := Lib.hid (show spanL (X.data.toList :: l.drop (k + 1)) n = spanL l 0 from by rw [← hd]; exact HS.out)
    obtain ⟨N, hN⟩ : ∃ N, N = (X.data.toList.takeWhile isDigit).length := ⟨_, rfl⟩
    have hNs : N ≤ X.size := by rw [hN]; exact Nat.le_trans (takeWhile_len _) (by simp)
    have HDG := Lib.hid (fun j (h : j < X.size) (hj : j ≤ N) => show isDigit X[j] = decide (j < N) from by have := takeWhile_at isDigit X.data.toList j (by simpa using h) (by rw [← hN]; exact hj); rw [← hN] at this; exact this)
    have HN := Lib.hid hN
    obtain ⟨g1, rfl⟩ : ∃ g, g = gk := ⟨gk, rfl⟩
    obtain ⟨w2, rfl⟩ : ∃ w2, w2 = wr := ⟨wr, rfl⟩
    clear hX hXx hXs hx hd HS hN
    go_wp2_with fail
    go_loopg [8, 9] (X.size + 1) (fun f a c wx => ∃ j m : Nat, j ≤ N ∧ j ≤ 10 ∧ a = .int .i64 j ∧ c = .int .i64 m ∧ X.size - j < f ∧ m ≤ 9999999999 ∧ Hid (decS (X.data.toList.take j) = m) ∧ wx = w2)
    case atStart => exact ⟨0, 0, by omega, by omega, rfl, rfl, by omega, by omega, rfl, rfl⟩
    case round =>
     obtain ⟨j, m, hj, hj10, rfl, rfl, hf2, hm, HDC, rfl⟩ := hrel
     by_cases hjl : j < X.size
     ·have hz2 : (j : Int) < (X.size : Int) := by omega
      have hdig := HDG.out j hjl hj
      have HD := Lib.hid (fun W => dig1_any X[j] W)
      rw [hdig] at HD
      by_cases hjN : j < N
      ·rw [decide_eq_true hjN] at HD hdig
       have HAL := Lib.hid (show (X.data.toList.take (j + 1)).all isDigit = true from by
        have h1 := takeWhile_all isDigit X.data.toList
        rw [← HN.out] at h1
        have h2 : X.data.toList.take (j + 1) = (X.data.toList.take N).take (j + 1) := by rw [List.take_take, Nat.min_eq_left (by omega)]
        rw [h2]
        rw [List.all_eq_true] at h1 ⊢
        exact fun c hc => h1 c (List.mem_of_mem_take hc))
       by_cases h10 : j < 10
       ·have hz10 : ¬ (10 : Int) ≤ (j : Int) := by omega
        have hz11 : ¬ (j : Int) ≥ 10 := by omega
        have hd1 : decS (X.data.toList.take (j + 1)) = m * 10 + (X[j].toNat - 48) := by
         have := take_dec X.data.toList j (by simpa using hjl)
         rw [HDC.out] at this
         rw [this]
         simp
         rfl
        have HD1 := Lib.hid hd1
        have hbd : m * 10 + (X[j].toNat - 48) ≤ 9999999999 := by
         have h := decS_lt _ HAL.out 10 (by rw [List.length_take]; omega)
         rw [hd1] at h
         omega
        obtain ⟨e1, e2⟩ := (isDigit_nat X[j]).1 hdig
        clear hd1 hdig HAL HDC
        go_wp2_with (go_at_call 53; refine (HD.out _).mono ?_; rintro e w' ⟨rfl, rfl⟩)
        go_roundg (X.size - j)
        case measure => omega
        case rel => exact ⟨j + 1, m * 10 + (X[j].toNat - 48), by omega, by omega, by go_num, by go_num, by omega, hbd, HD1, rfl⟩
       ·have hz10 : (10 : Int) ≤ (j : Int) := by omega
        have hz11 : (j : Int) ≥ 10 := by omega
        have HVF := Lib.hid (show 0 = v ∧ false = b from by
         have h1 := HS1.out
         rw [span_no _ _ _ (by rw [wrd_long _ (by rw [← HN.out]; omega)])] at h1
         have := HV.out; rw [← h1] at this; simpa using this)
        clear hdig HAL HDC
        go_wp2_with (go_at_call 53; refine (HD.out _).mono ?_; rintro e w' ⟨rfl, rfl⟩)
        obtain ⟨rfl, rfl⟩ := HVF.out
        go_ret2
        exact ⟨rfl, HB1.out.trans (HB.out.mono HB1.out.size)⟩
      ·rw [decide_eq_false hjN] at HD
       obtain rfl : j = N := by omega
       clear hdig hjN
       go_wp2_with (go_at_call 53; refine (HD.out _).mono ?_; rintro e w' ⟨rfl, rfl⟩)
       have HX := Lib.hid (exTo X j)
       rw [HX.out]
       refine (unitR_any (X.data.toList.drop j) _).mono ?_
       rintro e w3 ⟨rfl, rfl⟩
       obtain ⟨un, hun⟩ : ∃ un, un = secS (X.data.toList.drop j) := ⟨_, rfl⟩
       rw [← hun]
       have hu0 := secS_le (X.data.toList.drop j)
       rw [← hun] at hu0
       by_cases hk1 : j < 1
       ·have hke : ((j : Int) == 0) = true := by simp; omega
        have HVF := Lib.hid (show 0 = v ∧ false = b from by
         have h1 := HS1.out
         rw [span_no _ _ _ (by rw [wrd_short _ (by rw [← HN.out]; exact hk1)])] at h1
         have := HV.out; rw [← h1] at this; simpa using this)
        obtain rfl : j = 0 := by omega
        clear hun hke
        go_wp2_with fail
        obtain ⟨rfl, rfl⟩ := HVF.out
        go_ret2
        exact ⟨rfl, HB1.out.trans (HB.out.mono HB1.out.size)⟩
       ·have hke : ((j : Int) == 0) = false := by simp; omega
        by_cases hmz : un = 0
        ·have HVF := Lib.hid (show 0 = v ∧ false = b from by
          have h1 := HS1.out
          rw [span_no _ _ _ (by rw [wrd_none _ (by rw [← HN.out, ← hun]; exact hmz)])] at h1
          have := HV.out; rw [← h1] at this; simpa using this)
         subst hmz
         clear hun
         go_wp2_with fail
         obtain ⟨rfl, rfl⟩ := HVF.out
         go_ret2
         exact ⟨rfl, HB1.out.trans (HB.out.mono HB1.out.size)⟩
        ·have hue : (un == 0) = false := by rw [beq_eq_false_iff_ne]; exact hmz
         have hwo : wrdS X.data.toList = ((m : Int) * un, true) := by
          rw [wrd_ok _ (by rw [← HN.out]; exact hk1) (by rw [← HN.out]; omega) (by rw [← HN.out, ← hun]; exact hmz), ← HN.out, HDC.out, ← hun]
         have HWO := Lib.hid hwo
         have hup : 0 < un := by omega
         clear hun hwo
         by_cases hq : ¬ (m : Int) ≤ 6311433600 / un
         ·have hqA : 6311433600 / un < (m : Int) := by omega
          have hov := quo_over m un hup (by omega) hq
          have HVF := Lib.hid (show 0 = v ∧ false = b from by
           have h1 := HS1.out
           rw [span_big _ _ _ _ HWO.out (by omega)] at h1
           have := HV.out; rw [← h1] at this; simpa using this)
          clear hov
          go_wp2_with fail
          obtain ⟨rfl, rfl⟩ := HVF.out
          go_ret2
          exact ⟨rfl, HB1.out.trans (HB.out.mono HB1.out.size)⟩
         ·have hqB : (m : Int) ≤ 6311433600 / un := by omega
          have hun2 := quo_under m un hup (by omega) hqB
          have hm0 : 0 ≤ (m : Int) * un := Int.mul_nonneg (by omega) (by omega)
          have hwm : wrap64 ((m : Int) * un) = (m : Int) * un := by unfold wrap64; omega
          have hws : wrap64 (6311433600 - n) = 6311433600 - n := by unfold wrap64; omega
          by_cases hbig : ¬ (m : Int) * un ≤ 6311433600 - n
          ·have hbA : 6311433600 - n < (m : Int) * un := by omega
           have HVF := Lib.hid (show 0 = v ∧ false = b from by
            have h1 := HS1.out
            rw [span_big _ _ _ _ HWO.out (by omega)] at h1
            have := HV.out; rw [← h1] at this; simpa using this)
           go_wp2_with fail
           obtain ⟨rfl, rfl⟩ := HVF.out
           go_ret2
           exact ⟨rfl, HB1.out.trans (HB.out.mono HB1.out.size)⟩
          ·have hbB : (m : Int) * un ≤ 6311433600 - n := by omega
           have HS2 := Lib.hid (show spanL (l.drop (k + 1)) (n + (m : Int) * un) = spanL l 0 from by
            rw [← span_go _ _ _ _ HWO.out (by omega)]; exact HS1.out)
           have hwa : wrap64 (n + (m : Int) * un) = n + (m : Int) * un := by unfold wrap64; omega
           go_wp2_with fail
           go_roundg (l.length - k)
           case measure => omega
           case rel => exact ⟨k + 1, n + (m : Int) * un, by omega, by go_num, by first | rfl | go_num, by omega, by omega, by omega, HB, HS2⟩
     ·have hz2 : ¬ (j : Int) < (X.size : Int) := by omega
      obtain rfl : j = N := by omega
      go_wp2_with fail
      have HX := Lib.hid (exTo X j)
      rw [HX.out]
      refine (unitR_any (X.data.toList.drop j) _).mono ?_
      rintro e w3 ⟨rfl, rfl⟩
      obtain ⟨un, hun⟩ : ∃ un, un = secS (X.data.toList.drop j) := ⟨_, rfl⟩
      rw [← hun]
      have hu0 := secS_le (X.data.toList.drop j)
      rw [← hun] at hu0
      by_cases hk1 : j < 1
      ·have hke : ((j : Int) == 0) = true := by simp; omega
       have HVF := Lib.hid (show 0 = v ∧ false = b from by
        have h1 := HS1.out
        rw [span_no _ _ _ (by rw [wrd_short _ (by rw [← HN.out]; exact hk1)])] at h1
        have := HV.out; rw [← h1] at this; simpa using this)
       obtain rfl : j = 0 := by omega
       clear hun hke
       go_wp2_with fail
       obtain ⟨rfl, rfl⟩ := HVF.out
       go_ret2
       exact ⟨rfl, HB1.out.trans (HB.out.mono HB1.out.size)⟩
      ·have hke : ((j : Int) == 0) = false := by simp; omega
       by_cases hmz : un = 0
       ·have HVF := Lib.hid (show 0 = v ∧ false = b from by
         have h1 := HS1.out
         rw [span_no _ _ _ (by rw [wrd_none _ (by rw [← HN.out, ← hun]; exact hmz)])] at h1
         have := HV.out; rw [← h1] at this; simpa using this)
        subst hmz
        clear hun
        go_wp2_with fail
        obtain ⟨rfl, rfl⟩ := HVF.out
        go_ret2
        exact ⟨rfl, HB1.out.trans (HB.out.mono HB1.out.size)⟩
       ·have hue : (un == 0) = false := by rw [beq_eq_false_iff_ne]; exact hmz
        have hwo : wrdS X.data.toList = ((m : Int) * un, true) := by
         rw [wrd_ok _ (by rw [← HN.out]; exact hk1) (by rw [← HN.out]; omega) (by rw [← HN.out, ← hun]; exact hmz), ← HN.out, HDC.out, ← hun]
        have HWO := Lib.hid hwo
        have hup : 0 < un := by omega
        clear hun hwo
        by_cases hq : ¬ (m : Int) ≤ 6311433600 / un
        ·have hqA : 6311433600 / un < (m : Int) := by omega
         have hov := quo_over m un hup (by omega) hq
         have HVF := Lib.hid (show 0 = v ∧ false = b from by
          have h1 := HS1.out
          rw [span_big _ _ _ _ HWO.out (by omega)] at h1
          have := HV.out; rw [← h1] at this; simpa using this)
         clear hov
         go_wp2_with fail
         obtain ⟨rfl, rfl⟩ := HVF.out
         go_ret2
         exact ⟨rfl, HB1.out.trans (HB.out.mono HB1.out.size)⟩
        ·have hqB : (m : Int) ≤ 6311433600 / un := by omega
         have hun2 := quo_under m un hup (by omega) hqB
         have hm0 : 0 ≤ (m : Int) * un := Int.mul_nonneg (by omega) (by omega)
         have hwm : wrap64 ((m : Int) * un) = (m : Int) * un := by unfold wrap64; omega
         have hws : wrap64 (6311433600 - n) = 6311433600 - n := by unfold wrap64; omega
         by_cases hbig : ¬ (m : Int) * un ≤ 6311433600 - n
         ·have hbA : 6311433600 - n < (m : Int) * un := by omega
          have HVF := Lib.hid (show 0 = v ∧ false = b from by
           have h1 := HS1.out
           rw [span_big _ _ _ _ HWO.out (by omega)] at h1
           have := HV.out; rw [← h1] at this; simpa using this)
          go_wp2_with fail
          obtain ⟨rfl, rfl⟩ := HVF.out
          go_ret2
          exact ⟨rfl, HB1.out.trans (HB.out.mono HB1.out.size)⟩
         ·have hbB : (m : Int) * un ≤ 6311433600 - n := by omega
          have HS2 := Lib.hid (show spanL (l.drop (k + 1)) (n + (m : Int) * un) = spanL l 0 from by
           rw [← span_go _ _ _ _ HWO.out (by omega)]; exact HS1.out)
          have hwa : wrap64 (n + (m : Int) * un) = n + (m : Int) * un := by unfold wrap64; omega
          go_wp2_with fail
          go_roundg (l.length - k)
          case measure => omega
          case rel => exact ⟨k + 1, n + (m : Int) * un, by omega, by go_num, by first | rfl | go_num, by omega, by omega, by omega, HB, HS2⟩
   ·have hz : ¬ ((k : Int) < (l.length : Int)) := by omega
    have HS2 := Lib.hid (show spanL l 0 = some n from by have := HS.out; rw [List.drop_eq_nil_of_le (by omega)] at this; exact this.symm)
    have HVF := Lib.hid (show n = v ∧ (decide (0 < l.length)) = b from by have := HV.out; rw [HS2.out] at this; simpa using this)
    clear HS
    by_cases hl0 : 0 < l.length
    ·have hl1 : (l.length : Int) > 0 := by omega
     have hl2 : (0 : Int) < (l.length : Int) := by omega
     go_wp2_with fail
     obtain ⟨rfl, rfl⟩ := HVF.out
     go_ret2
     exact ⟨by rw [decide_eq_true hl0]; rfl, HB1.out.trans (HB.out.mono HB1.out.size)⟩
    ·have hl1 : ¬ ((l.length : Int) > 0) := by omega
     have hl2 : ¬ ((0 : Int) < (l.length : Int)) := by omega
     go_wp2_with fail
     obtain ⟨rfl, rfl⟩ := HVF.out
     go_ret2
     exact ⟨by rw [decide_eq_false hl0]; rfl, HB1.out.trans (HB.out.mono HB1.out.size)⟩
end Go.Proofs.YtdpnahojhmkemaaGreatDoor
