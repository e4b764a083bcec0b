import Derived.Lib.IndexMore
import Derived.Test.YtdpnahojhmkemaaGreatDoorKP4
import Derived.Test.YtdpnahojhmkemaaGreatDoorKP5
import Derived.Test.YtdpnahojhmkemaaGreatDoorKP6
import Derived.Test.YtdpnahojhmkemaaGreatDoorKP9
namespace Go.Proofs.YtdpnahojhmkemaaGreatDoor
open Go Go.RowKit
set_option linter.unusedVariables false
set_option linter.unusedSimpArgs false
set_option maxRecDepth 100000
set_option maxHeartbeats 2000000 in
theorem hasR_any (oa : Option Addr) (cap : Nat) (l : List Str) (x : Str) (w : World) (hl : l.length ≤ 4294967296) (h : StrRow w oa l) (r : Bool) (hr : l.contains x = r) :
  Calls Tryz.prog 31 #[.slice oa l.length cap, .string ⟨x.toArray⟩] w fun e w' => e = .returned (.bool r) ∧ Below w.heap.size w w' := by
 have H := Lib.hid h; have HR := Lib.hid hr
 clear h hr
 go_enter Tryz.func31, Tryz.ntmps31
 go_wp2
 go_loopg [9] l.length (fun f s9 wr => ∃ k : Nat, k + f = l.length ∧ s9 = .int .i64 k ∧ Hid ((l.drop k).contains x = r) ∧ Hid (Below w.heap.size w wr))
 case atStart => exact ⟨0, by omega, rfl, HR, Below.refl _ _⟩
 case round =>
  obtain ⟨k, hkf, rfl, HA, HB⟩ := hrel
  by_cases hlt : k < l.length
  ·have hltz : (k : Int) < (l.length : Int) := by omega
   obtain ⟨b, o, rfl, hc⟩ := (H.out.below HB.out) k hlt
   obtain ⟨y, hy⟩ : ∃ y, y = l[k] := ⟨_, rfl⟩
   rw [← hy] at hc
   have hd : (y :: l.drop (k + 1)).contains x = r := by rw [hy, ← List.drop_eq_getElem_cons hlt]; exact HA.out
   have HD := Lib.hid hd
   clear hd hy HA
   cases hq : (y == x) with
   | true =>
    have HQ := Lib.hid (show true = r by
     have h2 := HD.out
     obtain rfl : y = x := by simpa using hq
     simpa using h2)
    clear HD
    go_wp2_with fail
    go_ret
    exact ⟨by rw [← HQ.out]; rfl, HB.out⟩
   | false =>
    have HQ := Lib.hid (show (l.drop (k + 1)).contains x = r by
     have h2 := HD.out
     have h3 : ¬ x = y := by intro e; subst e; simp at hq
     simpa [h3] using h2)
    clear HD
    go_wp2_with fail
    go_roundg (l.length - (k + 1))
    case measure => omega
    case rel => exact ⟨k + 1, by omega, by go_num, HQ, HB⟩
  ·have hltz : ¬ (k : Int) < (l.length : Int) := by omega
   have HQ := Lib.hid (show false = r by
    have h2 := HA.out
    rw [List.drop_of_length_le (by omega)] at h2
    simpa using h2)
   clear HA
   go_wp2_with fail
   go_ret
   exact ⟨by rw [← HQ.out]; rfl, HB.out⟩
def numR (s : Str) : Int := if (numK s).2 = true then (numK s).1 else -1
theorem numR_nonneg (s : Str) : decide (0 ≤ numR s) = (numK s).2 := by
 unfold numR numK
 split
 ·split
  ·simp
  ·simp
 ·simp
theorem decS_snoc (l : Str) (c : UInt8) : decS (l ++ [c]) = decS l * 10 + (c.toNat - 48) := decF_snoc 0 l c
theorem numR_no (s : Str) (h : longB s 5 isDigit = false) : numR s = -1 := by unfold numR numK; rw [h]; rfl
set_option maxHeartbeats 4000000 in
theorem numberR_any (s : ByteArray) (w : World) (r : Int) (hr : numR s.data.toList = r) :
  Calls Tryz.prog 32 #[.string s] w fun e w' => e = .returned (.int .i64 r) ∧ Below w.heap.size w w' := by
 have hlen : s.data.toList.length = s.size := by simp
 have HR := Lib.hid hr
 clear hr
 by_cases h1 : s.size < 1
 ·have hz : (s.size : Int) < 1 := by omega
  have HN := Lib.hid (show -1 = r by
   rw [← HR.out, numR_no _ (by unfold longB; rw [List.eq_nil_of_length_eq_zero (by omega : s.data.toList.length = 0)]; rfl)])
  clear HR hlen
  go_enter Tryz.func32, Tryz.ntmps32
  go_wp2
  go_ret
  exact ⟨by rw [← HN.out]; rfl, Below.refl _ _⟩
 ·have hz : ¬ (s.size : Int) < 1 := by omega
  by_cases h5 : 5 < s.size
  ·have hz5 : (s.size : Int) > 5 := by omega
   have HN := Lib.hid (show -1 = r by
    rw [← HR.out, numR_no _ (by unfold longB; rw [hlen, decide_eq_false (by omega)]; simp)])
   clear HR hlen
   go_enter Tryz.func32, Tryz.ntmps32
   go_wp2
   go_ret
   exact ⟨by rw [← HN.out]; rfl, Below.refl _ _⟩
  ·have hz5 : ¬ (s.size : Int) > 5 := by omega
   have h5n : s.size ≤ 5 := by omega
   obtain ⟨u, hu⟩ : ∃ u, u = s.data.toList := ⟨_, rfl⟩
   rw [← hu] at HR hlen
   have HU := Lib.hid hu
   clear hu
   go_enter Tryz.func32, Tryz.ntmps32
   go_wp2
   go_loopg [3, 4] (s.size + 1) (fun f s3 s4 wr => ∃ k n : Nat, k ≤ s.size ∧ s.size - k < f ∧ s4 = .int .i64 k ∧ s3 = .int .i64 n ∧ n ≤ 99999 ∧ Hid (decS (u.take k) = n) ∧ Hid ((u.take k).all isDigit = true) ∧ Hid (Below w.heap.size w wr))
   case atStart => exact ⟨0, 0, by omega, by omega, rfl, rfl, by omega, Lib.hid rfl, Lib.hid rfl, Below.refl _ _⟩
   case round =>
    obtain ⟨k, n, hk, hf, rfl, rfl, hn, HV, HA, HB⟩ := hrel
    by_cases hlt : k < s.size
    ·have hltz : (k : Int) < (s.size : Int) := by omega
     have hcu : u.take (k + 1) = u.take k ++ [s[k]] := by
      have hkl : k < u.length := by omega
      rw [List.take_add_one, List.getElem?_eq_getElem hkl]
      simp [HU.out]
      rfl
     have HDG := Lib.hid (fun V => dig1_any s[k] V)
     have HV1 := Lib.hid (show decS (u.take (k + 1)) = n * 10 + (s[k].toNat - 48) by rw [hcu, decS_snoc, HV.out])
     have HA1 := Lib.hid (show (u.take (k + 1)).all isDigit = isDigit s[k] by rw [hcu, List.all_append, HA.out]; simp)
     clear hcu
     cases hd : isDigit s[k] with
     | false =>
      rw [hd] at HDG
      have HN := Lib.hid (show -1 = r by
       rw [← HR.out, numR_no]
       unfold longB
       have : u.all isDigit = false := by
        rw [← List.take_append_drop (k + 1) u, List.all_append, HA1.out, hd]; rfl
       rw [this]; simp)
      clear HV1 HA1 HV HA hd
      go_wp2_with fail
      refine (HDG.out _).mono ?_
      rintro e w2 ⟨rfl, rfl⟩
      go_wp2_with fail
      go_ret
      exact ⟨by rw [← HN.out]; rfl, HB.out⟩
     | true =>
      rw [hd] at HDG HA1
      obtain ⟨d1, d2⟩ := (isDigit_nat s[k]).1 hd
      have hbd : n * 10 + (s[k].toNat - 48) ≤ 99999 := by
       have h := decS_lt (u.take (k + 1)) HA1.out 5 (by rw [List.length_take]; omega)
       rw [HV1.out] at h
       omega
      clear HV HA hd
      go_wp2_with fail
      refine (HDG.out _).mono ?_
      rintro e w2 ⟨rfl, rfl⟩
      go_wp2_with fail
      go_roundg (s.size - k)
      case measure => omega
      case rel => exact ⟨k + 1, n * 10 + (s[k].toNat - 48), by omega, by omega, by go_num, by go_num, hbd, HV1, HA1, HB⟩
    ·have hltz : ¬ (k : Int) < (s.size : Int) := by omega
     obtain rfl : k = s.size := by omega
     rw [List.take_of_length_le (by omega)] at HV HA
     have hlb : longB u 5 isDigit = true := by
      unfold longB
      rw [HA.out, decide_eq_true (by omega)]
      cases u with
      | nil => simp at hlen; omega
      | cons a t => rfl
     by_cases hbig : n ≤ 65535
     ·have hbz : ¬ (n : Int) > 65535 := by omega
      have HN := Lib.hid (show (n : Int) = r by
       rw [← HR.out]; unfold numR numK
       rw [if_pos hlb, HV.out, if_pos hbig]; rfl)
      clear hlb HV HA
      go_wp2_with fail
      go_ret
      exact ⟨by rw [← HN.out]; rfl, HB.out⟩
     ·have hbz : (n : Int) > 65535 := by omega
      have HN := Lib.hid (show -1 = r by
       rw [← HR.out]; unfold numR numK
       rw [if_pos hlb, HV.out, if_neg hbig]; rfl)
      clear hlb HV HA
      go_wp2_with fail
      go_ret
      exact ⟨by rw [← HN.out]; rfl, HB.out⟩
end Go.Proofs.YtdpnahojhmkemaaGreatDoor
namespace Go.Proofs.YtdpnahojhmkemaaGreatDoor
open Go Go.RowKit
set_option linter.unusedVariables false
set_option linter.unusedSimpArgs false
set_option maxRecDepth 100000
def eqFrom : Str → Nat → Int
 | [], _ => -1
 | c :: t, i => if c = 61 then (i : Int) else eqFrom t (i + 1)
set_option maxHeartbeats 2000000 in
theorem equalsR_any (s : ByteArray) (w : World) (h63 : s.size ≤ 1000000000) (r : Int) (hr : eqFrom s.data.toList 0 = r) :
  Calls Tryz.prog 61 #[.string s] w fun e w' => e = .returned (.int .i64 r) ∧ Below w.heap.size w w' := by
 have hlen : s.data.toList.length = s.size := by simp
 obtain ⟨u, hu⟩ : ∃ u, u = s.data.toList := ⟨_, rfl⟩
 rw [← hu] at hr hlen
 have HR := Lib.hid hr; have HU := Lib.hid hu
 clear hr hu
 go_enter Tryz.func61, Tryz.ntmps61
 go_wp2
 go_loopg [3] (s.size + 1) (fun f s3 wr => ∃ k : Nat, k ≤ s.size ∧ s.size - k < f ∧ s3 = .int .i64 k ∧ Hid (eqFrom (u.drop k) k = r) ∧ Hid (Below w.heap.size w wr))
 case atStart => exact ⟨0, by omega, by omega, rfl, HR, Below.refl _ _⟩
 case round =>
  obtain ⟨k, hk, hf, rfl, HA, HB⟩ := hrel
  by_cases hlt : k < s.size
  ·have hltz : (k : Int) < (s.size : Int) := by omega
   have hd : u.drop k = s[k] :: u.drop (k + 1) := by
    have hkl : k < u.length := by omega
    rw [List.drop_eq_getElem_cons hkl]
    congr 1
    simp [HU.out]
    rfl
   cases hq : ((s[k].toNat : Int) == 61) with
   | true =>
    have HN := Lib.hid (show (k : Int) = r by
     rw [← HA.out, hd, eqFrom, if_pos]
     apply UInt8.toNat_inj.1
     have := eq_of_beq hq
     show s[k].toNat = 61
     omega)
    clear hd HA
    go_wp2_with fail
    go_ret
    exact ⟨by rw [← HN.out]; rfl, HB.out⟩
   | false =>
    have HN := Lib.hid (show eqFrom (u.drop (k + 1)) (k + 1) = r by
     rw [← HA.out, hd, eqFrom, if_neg]
     intro e
     rw [e] at hq
     simp at hq)
    clear hd HA
    go_wp2_with fail
    go_roundg (s.size - k)
    case measure => omega
    case rel => exact ⟨k + 1, by omega, by omega, by go_num, HN, HB⟩
  ·have hltz : ¬ (k : Int) < (s.size : Int) := by omega
   have HN := Lib.hid (show -1 = r by
    rw [← HA.out, List.drop_of_length_le (by omega)]; rfl)
   clear HA
   go_wp2_with fail
   go_ret
   exact ⟨by rw [← HN.out]; rfl, HB.out⟩
theorem varP_eq (c : UInt8) : varP c = (isLetter c || (isDigit c || (c.toNat : Int) == 95)) := by
 unfold varP
 have : (([95] : Str).contains c) = ((c.toNat : Int) == 95) := by
  rw [Bool.eq_iff_iff]
  simp [← UInt8.toNat_inj]
  omega
 simp only [List.any_cons, List.any_nil, this, Bool.or_false]
set_option maxHeartbeats 4000000 in
theorem varName_any (s : ByteArray) (w : World) (h63 : s.size ≤ 1000000000) (r : Bool) (hr : varB s.data.toList = r) :
  Calls Tryz.prog 62 #[.string s] w fun e w' => e = .returned (.bool r) ∧ Below w.heap.size w w' := by
 have hlen : s.data.toList.length = s.size := by simp
 obtain ⟨u, hu⟩ : ∃ u, u = s.data.toList := ⟨_, rfl⟩
 rw [← hu] at hr hlen
 have HR := Lib.hid hr; have HU := Lib.hid hu
 clear hr hu
 by_cases h1 : s.size < 1
 ·have hz : (s.size : Int) < 1 := by omega
  have HN := Lib.hid (show false = r by
   rw [← HR.out, List.eq_nil_of_length_eq_zero (by omega : u.length = 0)]; rfl)
  clear HR hlen HU
  go_enter Tryz.func62, Tryz.ntmps62
  go_wp2
  go_ret
  exact ⟨by rw [← HN.out]; rfl, Below.refl _ _⟩
 ·have hz : ¬ (s.size : Int) < 1 := by omega
  by_cases h5 : 60 < s.size
  ·have hz5 : (s.size : Int) > 60 := by omega
   have HN := Lib.hid (show false = r by
    rw [← HR.out]; unfold varB; rw [decide_eq_false (by omega)]; simp)
   clear HR hlen HU
   go_enter Tryz.func62, Tryz.ntmps62
   go_wp2
   go_ret
   exact ⟨by rw [← HN.out]; rfl, Below.refl _ _⟩
  ·have hz5 : ¬ (s.size : Int) > 60 := by omega
   have h0 : 0 < s.size := by omega
   have hh : u.headD 0 = s[0] := by
    have hkl : 0 < u.length := by omega
    rw [List.headD_eq_head?_getD, List.head?_eq_getElem?, List.getElem?_eq_getElem hkl]
    simp [HU.out]
    rfl
   have hvb : varB u = (u.all varP && !(isDigit s[0])) := by
    unfold varB
    rw [hh, decide_eq_true (by omega)]
    cases u with
    | nil => simp at hlen; omega
    | cons a t => simp
   have HD0 := Lib.hid (fun V => dig1_any s[0] V)
   cases hd0 : isDigit s[0] with
   | true =>
    rw [hd0] at HD0
    have HN := Lib.hid (show false = r by rw [← HR.out, hvb, hd0]; simp)
    clear HR hlen HU hh hvb hd0
    go_enter Tryz.func62, Tryz.ntmps62
    go_wp2_with fail
    refine (HD0.out _).mono ?_
    rintro e w1 ⟨rfl, rfl⟩
    go_wp2_with fail
    go_ret
    exact ⟨by rw [← HN.out]; rfl, Below.refl _ _⟩
   | false =>
    rw [hd0] at HD0
    have HA0 := Lib.hid (show (u.drop 0).all varP = r by rw [← HR.out, hvb, hd0]; simp)
    clear HR hh hvb hd0
    go_enter Tryz.func62, Tryz.ntmps62
    go_wp2_with fail
    refine (HD0.out _).mono ?_
    rintro e w1 ⟨rfl, rfl⟩
    go_wp2_with fail
    go_loopg [3] (s.size + 1) (fun f s3 wr => ∃ k : Nat, k ≤ s.size ∧ s.size - k < f ∧ s3 = .int .i64 k ∧ Hid ((u.drop k).all varP = r) ∧ Hid (Below w.heap.size w wr))
    case atStart => exact ⟨0, by omega, by omega, rfl, HA0, Below.refl _ _⟩
    case round =>
     obtain ⟨k, hk, hf, rfl, HA, HB⟩ := hrel
     by_cases hlt : k < s.size
     ·have hltz : (k : Int) < (s.size : Int) := by omega
      have hd : u.drop k = s[k] :: u.drop (k + 1) := by
       have hkl : k < u.length := by omega
       rw [List.drop_eq_getElem_cons hkl]
       congr 1
       simp [HU.out]
       rfl
      have HAL := Lib.hid (show ((isLetter s[k] || (isDigit s[k] || (s[k].toNat : Int) == 95)) && (u.drop (k + 1)).all varP) = r by
       rw [← HA.out, hd, List.all_cons, varP_eq])
      have HL := Lib.hid (fun V => let1_any s[k] V)
      have HG := Lib.hid (fun V => dig1_any s[k] V)
      clear hd HA
      cases hl : isLetter s[k] with
      | true =>
       rw [hl] at HL HAL
       have HN := Lib.hid (show (u.drop (k + 1)).all varP = r by rw [← HAL.out]; rfl)
       clear HAL hl
       go_wp2_with fail
       refine (HL.out _).mono ?_
       rintro e w2 ⟨rfl, rfl⟩
       go_wp2_with fail
       go_roundg (s.size - k)
       case measure => omega
       case rel => exact ⟨k + 1, by omega, by omega, by go_num, HN, HB⟩
      | false =>
       rw [hl] at HL HAL
       cases hg : isDigit s[k] with
       | true =>
        rw [hg] at HG HAL
        have HN := Lib.hid (show (u.drop (k + 1)).all varP = r by rw [← HAL.out]; rfl)
        clear HAL hl hg
        go_wp2_with fail
        refine (HL.out _).mono ?_
        rintro e w2 ⟨rfl, rfl⟩
        go_wp2_with fail
        refine (HG.out _).mono ?_
        rintro e w2 ⟨rfl, rfl⟩
        go_wp2_with fail
        go_roundg (s.size - k)
        case measure => omega
        case rel => exact ⟨k + 1, by omega, by omega, by go_num, HN, HB⟩
       | false =>
        rw [hg] at HG HAL
        cases hq : ((s[k].toNat : Int) == 95) with
        | true =>
         rw [hq] at HAL
         have hq2 : ((s[k].toNat : Int) != 95) = false := by rw [bne, hq]; rfl
         have HN := Lib.hid (show (u.drop (k + 1)).all varP = r by rw [← HAL.out]; rfl)
         clear HAL hl hg
         go_wp2_with fail
         refine (HL.out _).mono ?_
         rintro e w2 ⟨rfl, rfl⟩
         go_wp2_with fail
         refine (HG.out _).mono ?_
         rintro e w2 ⟨rfl, rfl⟩
         go_wp2_with fail
         go_roundg (s.size - k)
         case measure => omega
         case rel => exact ⟨k + 1, by omega, by omega, by go_num, HN, HB⟩
        | false =>
         rw [hq] at HAL
         have hq2 : ((s[k].toNat : Int) != 95) = true := by rw [bne, hq]; rfl
         have HN := Lib.hid (show false = r by rw [← HAL.out]; rfl)
         clear HAL hl hg
         go_wp2_with fail
         refine (HL.out _).mono ?_
         rintro e w2 ⟨rfl, rfl⟩
         go_wp2_with fail
         refine (HG.out _).mono ?_
         rintro e w2 ⟨rfl, rfl⟩
         go_wp2_with fail
         go_ret
         exact ⟨by rw [← HN.out]; rfl, HB.out⟩
     ·have hltz : ¬ (k : Int) < (s.size : Int) := by omega
      have HN := Lib.hid (show true = r by
       rw [← HA.out, List.drop_of_length_le (by omega)]; rfl)
      clear HA
      go_wp2_with fail
      go_ret
      exact ⟨by rw [← HN.out]; rfl, HB.out⟩
end Go.Proofs.YtdpnahojhmkemaaGreatDoor
namespace Go.Proofs.YtdpnahojhmkemaaGreatDoor
set_option linter.unusedVariables false
theorem eqFrom_index : ∀ (l : Str) (i : Nat), eqFrom l i = if Go.Lib.index l [61] = -1 then -1 else Go.Lib.index l [61] + i
 | [], i => rfl
 | c :: t, i => by
  have hg := Go.Lib.index_ge t [61]
  rw [eqFrom, Go.Lib.index]
  by_cases h : c = 61
  ·subst h
   simp [List.isPrefixOf]
  ·have hp : ([61] : Str).isPrefixOf (c :: t) = false := by
    simp [List.isPrefixOf]
    exact fun e => h e.symm
   rw [if_neg h, hp, eqFrom_index t (i + 1)]
   by_cases h2 : Go.Lib.index t [61] = -1
   ·simp [h2]
   ·have h3 : (Go.Lib.index t [61] == -1) = false := by simpa using h2
    simp only [h3, if_neg h2]
    rw [if_neg (by simp; omega)]
    simp
    omega
theorem eqFrom_cases : ∀ (l : Str) (i : Nat), eqFrom l i = -1 ∨ ∃ n : Nat, eqFrom l i = n ∧ i ≤ n ∧ n < i + l.length
 | [], i => .inl rfl
 | c :: t, i => by
  rw [eqFrom]
  by_cases h : c = 61
  ·rw [if_pos h]; exact .inr ⟨i, rfl, Nat.le_refl _, by simp⟩
  ·rw [if_neg h]
   rcases eqFrom_cases t (i + 1) with h1 | ⟨n, h1, h2, h3⟩
   ·exact .inl h1
   ·exact .inr ⟨n, h1, by omega, by simp; omega⟩
theorem cut_no (w : Str) (h : eqFrom w 0 = -1) : (Go.Lib.cut w [61]).2.2 = false := by
 rw [eqFrom_index] at h
 have hg := Go.Lib.index_ge w [61]
 have : Go.Lib.index w [61] = -1 := by
  by_cases h2 : Go.Lib.index w [61] = -1
  ·exact h2
  ·rw [if_neg h2] at h; omega
 unfold Go.Lib.cut
 rw [this]
 rfl
theorem cut_yes (w : Str) (i : Nat) (h : eqFrom w 0 = i) : Go.Lib.cut w [61] = (w.take i, w.drop (i + 1), true) := by
 rw [eqFrom_index] at h
 have hg := Go.Lib.index_ge w [61]
 have h2 : Go.Lib.index w [61] = i := by
  by_cases h2 : Go.Lib.index w [61] = -1
  ·rw [if_pos h2] at h; omega
  ·rw [if_neg h2] at h; simpa using h
 unfold Go.Lib.cut
 rw [h2, if_pos (by omega)]
 simp
end Go.Proofs.YtdpnahojhmkemaaGreatDoor
namespace Go.Proofs.YtdpnahojhmkemaaGreatDoor
open Go Go.RowKit
set_option linter.unusedVariables false
set_option linter.unusedSimpArgs false
set_option maxRecDepth 100000
set_option maxHeartbeats 2000000 in
theorem unitR_any (u : Str) (w : World) : Calls Tryz.prog 54 #[.string ⟨u.toArray⟩] w fun e w' => e = .returned (.int .i64 (secS u)) ∧ w' = w := by
 by_cases h0 : u = []
 ·subst h0
  go_enter Tryz.func54, Tryz.ntmps54
  go_wp2_with fail
  go_ret
  exact ⟨rfl, rfl⟩
 by_cases h1 : u = [115]
 ·subst h1
  go_enter Tryz.func54, Tryz.ntmps54
  go_wp2_with fail
  go_ret
  exact ⟨rfl, rfl⟩
 by_cases h2 : u = [115, 101, 99]
 ·subst h2
  go_enter Tryz.func54, Tryz.ntmps54
  go_wp2_with fail
  go_ret
  exact ⟨rfl, rfl⟩
 by_cases h3 : u = [109]
 ·subst h3
  go_enter Tryz.func54, Tryz.ntmps54
  go_wp2_with fail
  go_ret
  exact ⟨rfl, rfl⟩
 by_cases h4 : u = [109, 105, 110]
 ·subst h4
  go_enter Tryz.func54, Tryz.ntmps54
  go_wp2_with fail
  go_ret
  exact ⟨rfl, rfl⟩
 by_cases h5 : u = [104]
 ·subst h5
  go_enter Tryz.func54, Tryz.ntmps54
  go_wp2_with fail
  go_ret
  exact ⟨rfl, rfl⟩
 by_cases h6 : u = [104, 114]
 ·subst h6
  go_enter Tryz.func54, Tryz.ntmps54
  go_wp2_with fail
  go_ret
  exact ⟨rfl, rfl⟩
 by_cases h7 : u = [100]
 ·subst h7
  go_enter Tryz.func54, Tryz.ntmps54
  go_wp2_with fail
  go_ret
  exact ⟨rfl, rfl⟩
 by_cases h8 : u = [100, 97, 121]
 ·subst h8
  go_enter Tryz.func54, Tryz.ntmps54
  go_wp2_with fail
  go_ret
  exact ⟨rfl, rfl⟩
 by_cases h9 : u = [119]
 ·subst h9
  go_enter Tryz.func54, Tryz.ntmps54
  go_wp2_with fail
  go_ret
  exact ⟨rfl, rfl⟩
 by_cases h10 : u = [119, 101, 101, 107]
 ·subst h10
  go_enter Tryz.func54, Tryz.ntmps54
  go_wp2_with fail
  go_ret
  exact ⟨rfl, rfl⟩
 have b0 : List.isEmpty u = false := by cases u with | nil => exact absurd rfl h0 | cons a t => rfl
 have b1 : (u == [115]) = false := by rw [beq_eq_false_iff_ne]; exact h1
 have b2 : (u == [115, 101, 99]) = false := by rw [beq_eq_false_iff_ne]; exact h2
 have b3 : (u == [109]) = false := by rw [beq_eq_false_iff_ne]; exact h3
 have b4 : (u == [109, 105, 110]) = false := by rw [beq_eq_false_iff_ne]; exact h4
 have b5 : (u == [104]) = false := by rw [beq_eq_false_iff_ne]; exact h5
 have b6 : (u == [104, 114]) = false := by rw [beq_eq_false_iff_ne]; exact h6
 have b7 : (u == [100]) = false := by rw [beq_eq_false_iff_ne]; exact h7
 have b8 : (u == [100, 97, 121]) = false := by rw [beq_eq_false_iff_ne]; exact h8
 have b9 : (u == [119]) = false := by rw [beq_eq_false_iff_ne]; exact h9
 have b10 : (u == [119, 101, 101, 107]) = false := by rw [beq_eq_false_iff_ne]; exact h10
 have HS := Lib.hid (show secS u = 0 by unfold secS; simp only [if_neg h0, if_neg h1, if_neg h2, if_neg h3, if_neg h4, if_neg h5, if_neg h6, if_neg h7, if_neg h8, if_neg h9, if_neg h10])
 clear h0 h1 h2 h3 h4 h5 h6 h7 h8 h9 h10
 go_enter Tryz.func54, Tryz.ntmps54
 go_wp2_with fail
 go_ret
 exact ⟨by rw [HS.out]; rfl, rfl⟩
end Go.Proofs.YtdpnahojhmkemaaGreatDoor
