import Derived.Test.YtdjkedcpehhmnaaGreatDoorUS8
import Derived.Test.YtdjkedcpehhmnaaGreatDoorUS9
import Derived.Test.YtdjkedcpehhmnaaGreatDoorUS21
namespace Go.Proofs.YtdjkedcpehhmnaaGreatDoor
open Go Go.RowKit
set_option linter.unusedVariables false
set_option linter.unusedSimpArgs false
set_option maxRecDepth 100000
theorem ext_to (s : ByteArray) (k : Nat) : s.extract k s.size = ⟨(s.data.toList.drop k).toArray⟩ := by
 apply bytes_ext; rw [Lib.extract_to_end]
theorem ext_from (s : ByteArray) (k : Nat) : s.extract 0 k = ⟨(s.data.toList.take k).toArray⟩ := by
 apply bytes_ext; rw [Lib.extract_data]; simp
set_option maxHeartbeats 2000000 in
theorem seconds_any (u : Str) (w : World) : Calls Tryz.prog 216 #[.string ⟨u.toArray⟩] w fun e w' => e = .returned (.int .i64 (secS u)) ∧ w' = w := by
 by_cases h0 : u = []
 ·subst h0
  go_enter Tryz.func216, Tryz.ntmps216
  go_wp2_with fail
  go_ret
  exact ⟨rfl, rfl⟩
 by_cases h1 : u = [115]
 ·subst h1
  go_enter Tryz.func216, Tryz.ntmps216
  go_wp2_with fail
  go_ret
  exact ⟨rfl, rfl⟩
 by_cases h2 : u = [115, 101, 99]
 ·subst h2
  go_enter Tryz.func216, Tryz.ntmps216
  go_wp2_with fail
  go_ret
  exact ⟨rfl, rfl⟩
 by_cases h3 : u = [109]
 ·subst h3
  go_enter Tryz.func216, Tryz.ntmps216
  go_wp2_with fail
  go_ret
  exact ⟨rfl, rfl⟩
 by_cases h4 : u = [109, 105, 110]
 ·subst h4
  go_enter Tryz.func216, Tryz.ntmps216
  go_wp2_with fail
  go_ret
  exact ⟨rfl, rfl⟩
 by_cases h5 : u = [104]
 ·subst h5
  go_enter Tryz.func216, Tryz.ntmps216
  go_wp2_with fail
  go_ret
  exact ⟨rfl, rfl⟩
 by_cases h6 : u = [104, 114]
 ·subst h6
  go_enter Tryz.func216, Tryz.ntmps216
  go_wp2_with fail
  go_ret
  exact ⟨rfl, rfl⟩
 by_cases h7 : u = [100]
 ·subst h7
  go_enter Tryz.func216, Tryz.ntmps216
  go_wp2_with fail
  go_ret
  exact ⟨rfl, rfl⟩
 by_cases h8 : u = [100, 97, 121]
 ·subst h8
  go_enter Tryz.func216, Tryz.ntmps216
  go_wp2_with fail
  go_ret
  exact ⟨rfl, rfl⟩
 by_cases h9 : u = [119]
 ·subst h9
  go_enter Tryz.func216, Tryz.ntmps216
  go_wp2_with fail
  go_ret
  exact ⟨rfl, rfl⟩
 by_cases h10 : u = [119, 101, 101, 107]
 ·subst h10
  go_enter Tryz.func216, Tryz.ntmps216
  go_wp2_with fail
  go_ret
  exact ⟨rfl, rfl⟩
 have b0 : List.isEmpty u = false := by cases u with | nil => exact absurd rfl h0 | cons a t => rfl
 have b1 : (u == [115]) = false := by rw [beq_eq_false_iff_ne]; exact h1
 have b2 : (u == [115, 101, 99]) = false := by rw [beq_eq_false_iff_ne]; exact h2
 have b3 : (u == [109]) = false := by rw [beq_eq_false_iff_ne]; exact h3
 have b4 : (u == [109, 105, 110]) = false := by rw [beq_eq_false_iff_ne]; exact h4
 have b5 : (u == [104]) = false := by rw [beq_eq_false_iff_ne]; exact h5
 have b6 : (u == [104, 114]) = false := by rw [beq_eq_false_iff_ne]; exact h6
 have b7 : (u == [100]) = false := by rw [beq_eq_false_iff_ne]; exact h7
 have b8 : (u == [100, 97, 121]) = false := by rw [beq_eq_false_iff_ne]; exact h8
 have b9 : (u == [119]) = false := by rw [beq_eq_false_iff_ne]; exact h9
 have b10 : (u == [119, 101, 101, 107]) = false := by rw [beq_eq_false_iff_ne]; exact h10
 have HS := h_ (show secS u = 0 by unfold secS; simp only [if_neg h0, if_neg h1, if_neg h2, if_neg h3, if_neg h4, if_neg h5, if_neg h6, if_neg h7, if_neg h8, if_neg h9, if_neg h10])
 clear h0 h1 h2 h3 h4 h5 h6 h7 h8 h9 h10
 go_enter Tryz.func216, Tryz.ntmps216
 go_wp2_with fail
 go_ret
 exact ⟨by rw [HS.out]; rfl, rfl⟩
set_option maxHeartbeats 4000000 in
theorem word_any2 (s : ByteArray) (w : World) (hs : s.size ≤ 1000000000) (v : Int) (b : Bool) (hv : wrdS s.data.toList = (v, b)) :
  Calls Tryz.prog 181 #[.string s] w fun e w' => e = .returned (.tuple #[.int .i64 v, .bool b]) ∧ Below w.heap.size w w' := by
 have hlen : s.data.toList.length = s.size := by simp
 have HV := h_ hv; clear hv
 obtain ⟨N, hN⟩ : ∃ N, N = (s.data.toList.takeWhile isDigit).length := ⟨_, rfl⟩
 have HN := h_ hN
 have hNs : N ≤ s.size := by rw [hN, ← hlen]; exact takeWhile_len _
 clear hN
 go_enter Tryz.func181, Tryz.ntmps181
 go_wp2_with fail
 go_loopg [4] (s.size + 1) (fun f i wr => ∃ k : Nat, k ≤ N ∧ i = .int .i64 k ∧ s.size - k < f ∧ wr = w)
 case atStart => exact ⟨0, by omega, rfl, by omega, rfl⟩
 case round =>
  obtain ⟨k, hk, rfl, hfu, rfl⟩ := hrel
  by_cases hlt : k < s.size
  ·have hz : (k : Int) < (s.size : Int) := by omega
   have hdig : isDigit s[k] = decide (k < N) := by
    have h1 := takeWhile_at isDigit s.data.toList k (by rw [hlen]; exact hlt) (by rw [← HN.out]; exact hk)
    rw [← HN.out] at h1
    exact h1
   by_cases hkN : k < N
   ·rw [decide_eq_true hkN] at hdig
    have HD := h_ (fun W => digit_any s[k] W)
    rw [hdig] at HD
    clear hdig hlen
    go_wp2_with (go_at_call 122; refine (HD.out _).mono ?_; rintro e w' ⟨rfl, rfl⟩)
    go_roundg (s.size - k)
    case measure => omega
    case rel => exact ⟨k + 1, by omega, by go_num, by omega, rfl⟩
   ·rw [decide_eq_false hkN] at hdig
    have HD := h_ (fun W => digit_any s[k] W)
    rw [hdig] at HD
    obtain rfl : k = N := by omega
    clear hdig hlen hkN
    go_wp2_with (go_at_call 122; refine (HD.out _).mono ?_; rintro e w' ⟨rfl, rfl⟩)
    have HX := h_ (ext_to s k)
    rw [HX.out]
    refine (seconds_any (s.data.toList.drop k) _).mono ?_
    rintro e w1 ⟨rfl, rfl⟩
    obtain ⟨m, hm⟩ : ∃ m, m = secS (s.data.toList.drop k) := ⟨_, rfl⟩
    rw [← hm]
    have hV := HV.out
    unfold wrdS at hV
    rw [← HN.out, ← hm] at hV
    have hm0 := secS_le (s.data.toList.drop k)
    rw [← hm] at hm0
    clear hm
    by_cases hk1 : k < 1
    ·rw [if_pos (.inl hk1)] at hV
     obtain ⟨rfl, rfl⟩ : 0 = v ∧ false = b := by simpa using hV
     have hkz : (k : Int) < 1 := by omega
     clear hV
     go_wp2_with fail
     go_ret2
     exact ⟨rfl, Below.refl _ _⟩
    ·have hkz : ¬ ((k : Int) < 1) := by omega
     by_cases hk10 : 10 < k
     ·rw [if_pos (.inr (.inl hk10))] at hV
      obtain ⟨rfl, rfl⟩ : 0 = v ∧ false = b := by simpa using hV
      have hk11 : (k : Int) > 10 := by omega
      have hk12 : (10 : Int) < k := by omega
      clear hV
      go_wp2_with fail
      go_ret2
      exact ⟨rfl, Below.refl _ _⟩
     ·have hk11 : ¬ ((k : Int) > 10) := by omega
      have hk12 : ¬ ((10 : Int) < k) := by omega
      by_cases hmz : m = 0
      ·rw [if_pos (.inr (.inr hmz))] at hV
       obtain ⟨rfl, rfl⟩ : 0 = v ∧ false = b := by simpa using hV
       subst hmz
       clear hV
       go_wp2_with fail
       go_ret2
       exact ⟨rfl, Below.refl _ _⟩
      ·rw [if_neg (by omega)] at hV
       have hme : (m == 0) = false := by rw [beq_eq_false_iff_ne]; exact hmz
       obtain ⟨n, hn⟩ : ∃ n, decS (s.data.toList.take k) = n := ⟨_, rfl⟩
       have HVV := h_ (show (n : Int) * m = v ∧ true = b by rw [hn] at hV; simpa using hV)
       have hall : (s.data.toList.take k).all isDigit = true := by rw [HN.out]; exact takeWhile_all _ _
       have hlt2 : (s.data.toList.take k).length = k := by rw [List.length_take, Array.length_toList]; exact Nat.min_eq_left hNs
       have hne2 : s.data.toList.take k ≠ [] := by
        intro e
        rw [e] at hlt2
        simp only [List.length_nil] at hlt2
        omega
       have HX2 := h_ (ext_from s k)
       have hn10 : n < 10 ^ 10 := by rw [← hn]; exact decS_lt _ hall 10 (by omega)
       have HA := h_ (fun W => atoi_any (⟨(s.data.toList.take k).toArray⟩ : ByteArray) W hne2 (by show (s.data.toList.take k).toArray.size ≤ 18; rw [List.size_toArray]; omega) hall n hn)
       clear hV hall hn hlt2 hne2
       have hwr : wrap64 ((n : Int) * m) = (n : Int) * m := by
        have h1 : (n : Int) * m ≤ 10000000000 * 604800 := Int.mul_le_mul (by omega) (by omega) (by omega) (by omega)
        have h2 : 0 ≤ (n : Int) * m := Int.mul_nonneg (by omega) (by omega)
        unfold wrap64; omega
       go_wp2_with fail
       rw [HX2.out]
       refine (HA.out _).mono ?_
       rintro e w2 ⟨rfl, hb2⟩
       have HB2 := h_ hb2
       clear hb2 HA
       go_wp2_with fail
       go_quiet (fail)
       go_wp2
       obtain ⟨rfl, rfl⟩ := HVV.out
       go_ret2
       refine ⟨?_, HB2.out.trans (below_dn ⟨_, rfl⟩)⟩
       show Ending.returned (.tuple #[.int .i64 (wrap64 ((n : Int) * m)), .bool true]) = _
       rw [hwr]
  ·have hz : ¬ ((k : Int) < (s.size : Int)) := by omega
   obtain rfl : k = N := by omega
   clear hlen
   go_wp2_with fail
   have HX := h_ (ext_to s k)
   rw [HX.out]
   refine (seconds_any (s.data.toList.drop k) _).mono ?_
   rintro e w1 ⟨rfl, rfl⟩
   obtain ⟨m, hm⟩ : ∃ m, m = secS (s.data.toList.drop k) := ⟨_, rfl⟩
   rw [← hm]
   have hV := HV.out
   unfold wrdS at hV
   rw [← HN.out, ← hm] at hV
   have hm0 := secS_le (s.data.toList.drop k)
   rw [← hm] at hm0
   clear hm
   by_cases hk1 : k < 1
   ·rw [if_pos (.inl hk1)] at hV
    obtain ⟨rfl, rfl⟩ : 0 = v ∧ false = b := by simpa using hV
    have hkz : (k : Int) < 1 := by omega
    clear hV
    go_wp2_with fail
    go_ret2
    exact ⟨rfl, Below.refl _ _⟩
   ·have hkz : ¬ ((k : Int) < 1) := by omega
    by_cases hk10 : 10 < k
    ·rw [if_pos (.inr (.inl hk10))] at hV
     obtain ⟨rfl, rfl⟩ : 0 = v ∧ false = b := by simpa using hV
     have hk11 : (k : Int) > 10 := by omega
     have hk12 : (10 : Int) < k := by omega
     clear hV
     go_wp2_with fail
     go_ret2
     exact ⟨rfl, Below.refl _ _⟩
    ·have hk11 : ¬ ((k : Int) > 10) := by omega
     have hk12 : ¬ ((10 : Int) < k) := by omega
     by_cases hmz : m = 0
     ·rw [if_pos (.inr (.inr hmz))] at hV
      obtain ⟨rfl, rfl⟩ : 0 = v ∧ false = b := by simpa using hV
      subst hmz
      clear hV
      go_wp2_with fail
      go_ret2
      exact ⟨rfl, Below.refl _ _⟩
     ·rw [if_neg (by omega)] at hV
      have hme : (m == 0) = false := by rw [beq_eq_false_iff_ne]; exact hmz
      obtain ⟨n, hn⟩ : ∃ n, decS (s.data.toList.take k) = n := ⟨_, rfl⟩
      have HVV := h_ (show (n : Int) * m = v ∧ true = b by rw [hn] at hV; simpa using hV)
      have hall : (s.data.toList.take k).all isDigit = true := by rw [HN.out]; exact takeWhile_all _ _
      have hlt2 : (s.data.toList.take k).length = k := by rw [List.length_take, Array.length_toList]; exact Nat.min_eq_left hNs
      have hne2 : s.data.toList.take k ≠ [] := by
       intro e
       rw [e] at hlt2
       simp only [List.length_nil] at hlt2
       omega
      have HX2 := h_ (ext_from s k)
      have hn10 : n < 10 ^ 10 := by rw [← hn]; exact decS_lt _ hall 10 (by omega)
      have HA := h_ (fun W => atoi_any (⟨(s.data.toList.take k).toArray⟩ : ByteArray) W hne2 (by show (s.data.toList.take k).toArray.size ≤ 18; rw [List.size_toArray]; omega) hall n hn)
      clear hV hall hn hlt2 hne2
      have hwr : wrap64 ((n : Int) * m) = (n : Int) * m := by
       have h1 : (n : Int) * m ≤ 10000000000 * 604800 := Int.mul_le_mul (by omega) (by omega) (by omega) (by omega)
       have h2 : 0 ≤ (n : Int) * m := Int.mul_nonneg (by omega) (by omega)
       unfold wrap64; omega
      go_wp2_with fail
      rw [HX2.out]
      refine (HA.out _).mono ?_
      rintro e w2 ⟨rfl, hb2⟩
      have HB2 := h_ hb2
      clear hb2 HA
      go_wp2_with fail
      go_quiet (fail)
      go_wp2
      obtain ⟨rfl, rfl⟩ := HVV.out
      go_ret2
      refine ⟨?_, HB2.out.trans (below_dn ⟨_, rfl⟩)⟩
      show Ending.returned (.tuple #[.int .i64 (wrap64 ((n : Int) * m)), .bool true]) = _
      rw [hwr]
set_option maxHeartbeats 4000000 in
theorem spanParse_any (s : ByteArray) (w : World) (hs : s.size ≤ 1000000000) (v : Int) (b : Bool) (hv : spanS s.data.toList = (v, b)) :
  Calls Tryz.prog 140 #[.string s] w fun e w' => e = .returned (.tuple #[.int .i64 v, .bool b]) ∧ Below w.heap.size w w' := by
 obtain ⟨u, hu⟩ : ∃ u, u = s.data.toList := ⟨_, rfl⟩
 obtain rfl : s = ⟨u.toArray⟩ := by rw [hu]
 have hul : u.length ≤ 1000000000 := by simpa [ByteArray.size] using hs
 clear hu hs
 have hv' : spanS u = (v, b) := hv
 clear hv
 cases hi : (u == [105, 110, 102, 105, 110, 105, 116, 121]) with
 | true =>
  obtain rfl : u = [105, 110, 102, 105, 110, 105, 116, 121] := eq_of_beq hi
  obtain ⟨rfl, rfl⟩ : 1099511627776 = v ∧ true = b := by
   unfold spanS at hv'
   rw [if_pos rfl] at hv'
   simpa using hv'
  clear hv' hul hi
  go_enter Tryz.func140, Tryz.ntmps140
  go_wp2_with fail
  go_ret2
  exact ⟨rfl, Below.refl _ _⟩
 | false =>
  have hne : u ≠ [105, 110, 102, 105, 110, 105, 116, 121] := by rw [beq_eq_false_iff_ne] at hi; exact hi
  unfold spanS at hv'
  rw [if_neg hne] at hv'
  have HV := h_ hv'
  have HW := h_ (charsWords_any ⟨u.toArray⟩ w (by simp [ByteArray.size]; omega))
  have HM := h_ (fldS_mem u.length u [] (by simp))
  have HLN := h_ (blanksS_len u [])
  clear hv' hne
  go_enter Tryz.func140, Tryz.ntmps140
  go_wp2_with fail
  refine HW.out.mono ?_
  rintro e w1 ⟨A, rfl, hA, hA2, hst, hb1⟩
  have HST := h_ hst; have HB1 := h_ hb1
  obtain ⟨l, hl⟩ : ∃ l, l = blanksS u := ⟨_, rfl⟩
  have HL := h_ (show ∀ x ∈ l, x.length ≤ 1000000000 from by rw [hl]; intro x hx; have := HM.out x hx; omega)
  have HLL := h_ (show l.length ≤ 1000000001 from by rw [hl]; have := HLN.out; unfold blanksS; omega)
  change Hid (StrAt w1 A 0 (blanksS u)) at HST
  simp only at *
  rw [← hl] at HST HV ⊢
  clear hst hb1 hl HW HM HLN hA
  go_wp2_with fail
  go_loopg [5, 16] (l.length + 1) (fun f t i wr => ∃ (k : Nat) (n : Int), k ≤ l.length ∧ i = .int .i64 k ∧ t = .int .i64 n ∧ l.length - k < f ∧ 0 ≤ n ∧ n ≤ 6311433600 ∧ Hid (Below w1.heap.size w1 wr) ∧ Hid (spanL (l.drop k) n = spanL l 0))
  case atStart => exact ⟨0, 0, by omega, rfl, rfl, by omega, by omega, by omega, Below.refl _ _, rfl⟩
  case round =>
   obtain ⟨k, n, hk, rfl, rfl, hfu, hn0, hn1, HB, HS⟩ := hrel
   have hll := HLL.out
   by_cases hlt : k < l.length
   ·have hz : (k : Int) < (l.length : Int) := by omega
    have d0 := (HST.out.below hA2 HB.out) k hlt
    rw [Nat.zero_add] at d0
    obtain ⟨x, hx⟩ : ∃ x, x = l[k] := ⟨_, rfl⟩
    rw [← hx] at d0
    have hd : l.drop k = x :: l.drop (k + 1) := by rw [hx]; exact List.drop_eq_getElem_cons hlt
    have hxl : x.length ≤ 1000000000 := by rw [hx]; exact HL.out _ (List.getElem_mem hlt)
    have hS := HS.out
    rw [hd] at hS
    obtain ⟨m, c, hmc⟩ : ∃ m c, wrdS x = (m, c) := ⟨_, _, rfl⟩
    have hm0 := wrdS_nonneg x
    rw [hmc] at hm0
    rw [show spanL (x :: l.drop (k + 1)) n = if (wrdS x).2 = false then none else if n + (wrdS x).1 > 6311433600 then none else spanL (l.drop (k + 1)) (n + (wrdS x).1) from rfl] at hS
    rw [hmc] at hS
    simp only at hS hm0
    have HWD := h_ (word_any2 ⟨x.toArray⟩ wr (by simpa [ByteArray.size] using hxl) m c hmc)
    clear hx hd hxl hmc HS
    have hw64 : wrap64 (n + m) = n + m := by unfold wrap64; omega
    cases c with
    | false =>
     have HSN := h_ (show spanL l 0 = none from by rw [← hS]; simp)
     have HVF := h_ (show 0 = v ∧ false = b from by have := HV.out; rw [HSN.out] at this; simpa using this)
     clear hS
     go_wp2_with fail
     refine HWD.out.mono ?_
     rintro e w2 ⟨rfl, hb2⟩
     have HB2 := h_ (HB.out.trans (hb2.mono HB.out.size))
     clear hb2 HWD
     go_wp2_with fail
     obtain ⟨rfl, rfl⟩ := HVF.out
     go_ret2
     exact ⟨rfl, HB1.out.trans (HB2.out.mono HB1.out.size)⟩
    | true =>
     by_cases hbig : n + m > 6311433600
     ·have HSN := h_ (show spanL l 0 = none from by rw [← hS, if_neg (by simp), if_pos hbig])
      have HVF := h_ (show 0 = v ∧ false = b from by have := HV.out; rw [HSN.out] at this; simpa using this)
      have hbig2 : 6311433600 < n + m := hbig
      clear hS
      go_wp2_with fail
      refine HWD.out.mono ?_
      rintro e w2 ⟨rfl, hb2⟩
      have HB2 := h_ (HB.out.trans (hb2.mono HB.out.size))
      clear hb2 HWD
      go_wp2_with fail
      obtain ⟨rfl, rfl⟩ := HVF.out
      go_ret2
      exact ⟨rfl, HB1.out.trans (HB2.out.mono HB1.out.size)⟩
     ·have HS2 := h_ (show spanL (l.drop (k + 1)) (n + m) = spanL l 0 from by rw [← hS, if_neg (by simp), if_neg hbig])
      have hbig2 : ¬ (6311433600 < n + m) := hbig
      clear hS
      go_wp2_with fail
      refine HWD.out.mono ?_
      rintro e w2 ⟨rfl, hb2⟩
      have HB2 := h_ (HB.out.trans (hb2.mono HB.out.size))
      clear hb2 HWD
      go_wp2_with fail
      go_roundg (l.length - k)
      case measure => omega
      case rel => exact ⟨k + 1, n + m, by omega, by go_num, rfl, by omega, by omega, by omega, HB2, HS2⟩
   ·have hz : ¬ ((k : Int) < (l.length : Int)) := by omega
    have HS2 := h_ (show spanL l 0 = some n from by have := HS.out; rw [List.drop_eq_nil_of_le (by omega)] at this; exact this.symm)
    have HVF := h_ (show n = v ∧ (decide (0 < l.length)) = b from by have := HV.out; rw [HS2.out] at this; simpa using this)
    clear HS
    by_cases hl0 : 0 < l.length
    ·have hl1 : (l.length : Int) > 0 := by omega
     have hl2 : (0 : Int) < (l.length : Int) := by omega
     go_wp2_with fail
     obtain ⟨rfl, rfl⟩ := HVF.out
     go_ret2
     exact ⟨by rw [decide_eq_true hl0]; rfl, HB1.out.trans (HB.out.mono HB1.out.size)⟩
    ·have hl1 : ¬ ((l.length : Int) > 0) := by omega
     have hl2 : ¬ ((0 : Int) < (l.length : Int)) := by omega
     go_wp2_with fail
     obtain ⟨rfl, rfl⟩ := HVF.out
     go_ret2
     exact ⟨by rw [decide_eq_false hl0]; rfl, HB1.out.trans (HB.out.mono HB1.out.size)⟩
end Go.Proofs.YtdjkedcpehhmnaaGreatDoor
