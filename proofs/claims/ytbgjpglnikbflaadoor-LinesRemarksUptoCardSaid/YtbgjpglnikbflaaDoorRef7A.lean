/-
  The reference's Letter, Digit, blank, Trim, remark, Clean, of, equals.
-/
import Derived.Test.YtbgjpglnikbflaaDoorLines1
import Derived.Test.YtbgjpglnikbflaaDoorRef7S
import Derived.Deep.LoopGhost
import Derived.Lib.SmallJoins
namespace Go.Proofs.YtbgjpglnikbflaaDoor
open Go Go.RowKit
set_option linter.unusedVariables false
set_option maxRecDepth 100000

set_option maxHeartbeats 400000 in
theorem blankR_any (c : UInt8) (w : World) :
    Calls Tryd.prog 46 #[.int .u8 c.toNat] w fun e w' => e = .returned (.bool (isBlank c)) ∧ w = w' := by
  go_enter Tryd.func46, Tryd.ntmps46
  go_wp2
  all_goals
    go_ret
    refine ⟨ret_bool ?_, rfl⟩
    rw [isBlank_iff, Bool.eq_iff_iff]
    simp
    try omega
set_option maxHeartbeats 400000 in
theorem letterR_any (c : UInt8) (w : World) :
    Calls Tryd.prog 47 #[.int .u8 c.toNat] w fun e w' => e = .returned (.bool (isLetter c)) ∧ w = w' := by
  go_enter Tryd.func47, Tryd.ntmps47
  go_wp2
  all_goals
    go_ret
    refine ⟨ret_bool ?_, rfl⟩
    rw [isLetter_iff, Bool.eq_iff_iff]
    simp
    omega
set_option maxHeartbeats 400000 in
theorem digitR_any (c : UInt8) (w : World) :
    Calls Tryd.prog 48 #[.int .u8 c.toNat] w fun e w' => e = .returned (.bool (isDigit c)) ∧ w = w' := by
  go_enter Tryd.func48, Tryd.ntmps48
  go_wp2
  all_goals
    go_ret
    refine ⟨ret_bool ?_, rfl⟩
    rw [isDigit_iff, Bool.eq_iff_iff]
    simp
    omega

theorem ext_tail (x : ByteArray) : (x.extract 1 x.size).data.toList = x.data.toList.drop 1 := Lib.extract_to_end x 1
theorem last_of (x : ByteArray) (h : x.size - 1 < x.size) : x.data.toList.getLast? = some x[x.size - 1] := by
  rw [List.getLast?_eq_getElem?]
  have : x.data.toList.length = x.size := by simp
  rw [this, List.getElem?_eq_getElem (by omega)]
  rfl
theorem ext_init (x : ByteArray) : (x.extract 0 (x.size - 1)).data.toList = x.data.toList.dropLast := by
  rw [Lib.extract_data, List.dropLast_eq_take]
  simp

set_option maxHeartbeats 1000000 in
theorem trimR_any (s : ByteArray) (w : World) (h63 : s.size ≤ 9223372036854775807) (t : Str) (ht : trimS s.data.toList = t) :
    Calls Tryd.prog 27 #[.string s] w fun e w' => e = .returned (.string ⟨t.toArray⟩) ∧ w = w' := by
  have HT := Lib.hid ht; clear ht
  go_enter Tryd.func27, Tryd.ntmps27
  go_wp2_with fail
  go_loopg [0] (s.size + 1) (fun f v wr => ∃ x : ByteArray, v = .string x ∧ x.size < f ∧ x.size ≤ s.size ∧ Hid (x.data.toList.dropWhile isBlank = s.data.toList.dropWhile isBlank) ∧ w = wr)
  case atStart => exact ⟨s, rfl, by omega, by omega, rfl, rfl⟩
  case round =>
    obtain ⟨x, rfl, hfu, hxs, Hx, rfl⟩ := hrel
    have key : ((∃ h0 : 0 < x.size, isBlank x[0] = true) ∨ (∃ h0 : 0 < x.size, isBlank x[0] = false)) ∨ x.size = 0 := by
      by_cases h0 : 0 < x.size
      · left
        cases h : isBlank x[0]
        · exact .inr ⟨h0, h⟩
        · exact .inl ⟨h0, h⟩
      · right; omega
    rcases key with (⟨h0, hb⟩ | ⟨h0, hb⟩) | h0
    · obtain ⟨n1, n2, n3, n4⟩ := str_ne (s := x) (by omega)
      have HN := Lib.hid (show (x.extract 1 x.size).data.toList.dropWhile isBlank = s.data.toList.dropWhile isBlank by
        rw [← Hx.out, ext_tail]
        have := drop_cons x 0 h0
        rw [List.drop_zero] at this
        rw [this, List.dropWhile_cons, if_pos hb, List.drop_succ_cons, List.drop_zero])
      have HB := Lib.hid hb; clear hb
      go_wp2_with (go_at_call 46; refine (blankR_any _ _).mono ?_; rintro e w' ⟨rfl, rfl⟩; rw [HB.out])
      go_roundg x.size
      case measure => omega
      case rel => exact ⟨x.extract 1 x.size, rfl, by simp; omega, by simp; omega, HN, rfl⟩
    · obtain ⟨n1, n2, n3, n4⟩ := str_ne (s := x) (by omega)
      have HX := Lib.hid (show trimE x.data.toList = t by
        rw [← HT.out, ← trimE_trimS, ← Hx.out]
        have := drop_cons x 0 h0
        rw [List.drop_zero] at this
        rw [this, List.dropWhile_cons, if_neg (by simp [hb])])
      have HB := Lib.hid hb; clear hb
      go_wp2_with (go_at_call 46; refine (blankR_any _ _).mono ?_; rintro e w' ⟨rfl, rfl⟩; rw [HB.out])
      go_loopg [0] (x.size + 1) (fun f v wr => ∃ y : ByteArray, v = .string y ∧ y.size < f ∧ y.size ≤ s.size ∧ Hid (trimE y.data.toList = t) ∧ w = wr)
      case atStart => exact ⟨x, rfl, by omega, by omega, HX.out, rfl⟩
      case round =>
        obtain ⟨y, rfl, hfy, hys, Hy, rfl⟩ := hrel
        have i1 : ((y.size : Int) - 1).toNat = y.size - 1 := by omega
        have key : ((∃ h0 : y.size - 1 < y.size, isBlank y[y.size - 1] = true) ∨ (∃ h0 : y.size - 1 < y.size, isBlank y[y.size - 1] = false)) ∨ y.size = 0 := by
          by_cases h0 : y.size - 1 < y.size
          · left
            cases h : isBlank y[y.size - 1]
            · exact .inr ⟨h0, h⟩
            · exact .inl ⟨h0, h⟩
          · right; omega
        rcases key with (⟨h0, hb⟩ | ⟨h0, hb⟩) | h0
        · obtain ⟨n1, n2, n3, n4⟩ := str_ne (s := y) (by omega)
          have i2 : 0 ≤ (y.size : Int) - 1 := by omega
          have i3 : (y.size : Int) - 1 < (y.size : Int) := by omega
          have i4 : (y.size : Int) - 1 ≤ (y.size : Int) := by omega
          have HN := Lib.hid (show trimE (y.extract 0 (y.size - 1)).data.toList = t by
            rw [← Hy.out, ext_init, ← trimE_step (last_of y h0) hb])
          have HB := Lib.hid hb; clear hb
          go_wp2_with (go_at_call 46; refine (blankR_any _ _).mono ?_; rintro e w' ⟨rfl, rfl⟩; rw [HB.out])
          go_roundg y.size
          case measure => omega
          case rel => exact ⟨y.extract 0 (y.size - 1), rfl, by simp; omega, by simp; omega, HN, rfl⟩
        · obtain ⟨n1, n2, n3, n4⟩ := str_ne (s := y) (by omega)
          have i2 : 0 ≤ (y.size : Int) - 1 := by omega
          have i3 : (y.size : Int) - 1 < (y.size : Int) := by omega
          have HN := Lib.hid (show y.data.toList = t by
            rw [← Hy.out, trimE_stop (fun c hc => by rw [last_of y h0] at hc; injection hc with hc; subst hc; exact hb)])
          have HB := Lib.hid hb; clear hb
          go_wp2_with (go_at_call 46; refine (blankR_any _ _).mono ?_; rintro e w' ⟨rfl, rfl⟩; rw [HB.out])
          go_ret
          exact ⟨ret_val (congrArg Value.string (by rw [← HN.out])), rfl⟩
        · have hy := str_nil h0
          subst hy
          have HN := Lib.hid (show ([] : Str) = t by rw [← Hy.out]; rfl)
          clear i1 h0
          go_wp2_with fail
          go_ret
          exact ⟨ret_val (congrArg Value.string (by rw [← HN.out])), rfl⟩
    · have hx := str_nil h0
      subst hx
      have HX := Lib.hid (show trimE (⟨#[]⟩ : ByteArray).data.toList = t by
        rw [← HT.out, ← trimE_trimS, ← Hx.out]; rfl)
      clear h0
      go_wp2_with fail
      go_loopg [0] (0 + 1) (fun f v wr => ∃ y : ByteArray, v = .string y ∧ y.size < f ∧ y.size ≤ s.size ∧ Hid (trimE y.data.toList = t) ∧ w = wr)
      case atStart => exact ⟨⟨#[]⟩, rfl, by decide, Nat.zero_le _, HX.out, rfl⟩
      case round =>
        obtain ⟨y, rfl, hfy, hys, Hy, rfl⟩ := hrel
        have i1 : ((y.size : Int) - 1).toNat = y.size - 1 := by omega
        have key : ((∃ h0 : y.size - 1 < y.size, isBlank y[y.size - 1] = true) ∨ (∃ h0 : y.size - 1 < y.size, isBlank y[y.size - 1] = false)) ∨ y.size = 0 := by
          by_cases h0 : y.size - 1 < y.size
          · left
            cases h : isBlank y[y.size - 1]
            · exact .inr ⟨h0, h⟩
            · exact .inl ⟨h0, h⟩
          · right; omega
        rcases key with (⟨h0, hb⟩ | ⟨h0, hb⟩) | h0
        · obtain ⟨n1, n2, n3, n4⟩ := str_ne (s := y) (by omega)
          have i2 : 0 ≤ (y.size : Int) - 1 := by omega
          have i3 : (y.size : Int) - 1 < (y.size : Int) := by omega
          have i4 : (y.size : Int) - 1 ≤ (y.size : Int) := by omega
          have HN := Lib.hid (show trimE (y.extract 0 (y.size - 1)).data.toList = t by
            rw [← Hy.out, ext_init, ← trimE_step (last_of y h0) hb])
          have HB := Lib.hid hb; clear hb
          go_wp2_with (go_at_call 46; refine (blankR_any _ _).mono ?_; rintro e w' ⟨rfl, rfl⟩; rw [HB.out])
          go_roundg y.size
          case measure => omega
          case rel => exact ⟨y.extract 0 (y.size - 1), rfl, by simp; omega, by simp; omega, HN, rfl⟩
        · obtain ⟨n1, n2, n3, n4⟩ := str_ne (s := y) (by omega)
          have i2 : 0 ≤ (y.size : Int) - 1 := by omega
          have i3 : (y.size : Int) - 1 < (y.size : Int) := by omega
          have HN := Lib.hid (show y.data.toList = t by
            rw [← Hy.out, trimE_stop (fun c hc => by rw [last_of y h0] at hc; injection hc with hc; subst hc; exact hb)])
          have HB := Lib.hid hb; clear hb
          go_wp2_with (go_at_call 46; refine (blankR_any _ _).mono ?_; rintro e w' ⟨rfl, rfl⟩; rw [HB.out])
          go_ret
          exact ⟨ret_val (congrArg Value.string (by rw [← HN.out])), rfl⟩
        · have hy := str_nil h0
          subst hy
          have HN := Lib.hid (show ([] : Str) = t by rw [← Hy.out]; rfl)
          clear i1 h0
          go_wp2_with fail
          go_ret
          exact ⟨ret_val (congrArg Value.string (by rw [← HN.out])), rfl⟩

theorem beqU' {c : UInt8} {n : Nat} (hn : n < 256) : ((c.toNat : Int) == (n : Int)) = (c == UInt8.ofNat n) := by
  rw [Bool.eq_iff_iff]
  simp only [beq_iff_eq, ← UInt8.toNat_inj]
  rw [UInt8.toNat_ofNat_of_lt' hn]
  omega
theorem head_of' {s : ByteArray} {c : UInt8} {t : Str} (h : s.data.toList = c :: t) : ∃ h0 : 0 < s.size, s[0] = c := by
  obtain ⟨⟨l⟩⟩ := s
  simp at h
  subst h
  exact ⟨by show 0 < (c :: t).length; simp, rfl⟩

set_option maxHeartbeats 1000000 in
theorem remarkR_any (s : ByteArray) (w : World) (h63 : s.size ≤ 9223372036854775807) (b : Bool) (hb : isRemark s.data.toList = b) :
    Calls Tryd.prog 45 #[.string s] w fun e w' => e = .returned (.bool b) ∧ w = w' := by
  unfold isRemark at hb
  cases ht : trimS s.data.toList with
  | nil =>
    rw [ht] at hb
    have HB := Lib.hid hb; clear hb
    have HT := Lib.hid ht; clear ht
    go_enter Tryd.func45, Tryd.ntmps45
    go_wp2_with (go_at_call 27; refine (trimR_any _ _ h63 _ HT.out).mono ?_; rintro e w' ⟨rfl, rfl⟩)
    go_ret
    exact ⟨ret_bool HB.out, rfl⟩
  | cons c t =>
    rw [ht] at hb
    simp only at hb
    have HT := Lib.hid ht; clear ht
    obtain ⟨x, hx⟩ : ∃ x : ByteArray, x = ⟨(c :: t).toArray⟩ := ⟨_, rfl⟩
    have hxl : x.data.toList = c :: t := by rw [hx]
    obtain ⟨h0, hc⟩ := head_of' hxl
    obtain ⟨n1, n2, n3, n4⟩ := str_ne (s := x) (by omega)
    have HX := Lib.hid hx.symm; clear hx
    have HC := Lib.hid hc; clear hc
    have e35 : ((x[0].toNat : Int) == 35) = (c == 35) := by rw [HC.out]; exact beqU' (by decide)
    have e59 : ((x[0].toNat : Int) == 59) = (c == 59) := by rw [HC.out]; exact beqU' (by decide)
    cases k35 : (c == 35) with
    | true =>
      rw [k35] at e35 hb
      have HB := Lib.hid hb; clear hb e59 k35
      go_enter Tryd.func45, Tryd.ntmps45
      go_wp2_with (go_at_call 27; refine (trimR_any _ _ h63 _ HT.out).mono ?_; rintro e w' ⟨rfl, rfl⟩; rw [HX.out])
      go_ret
      exact ⟨ret_bool HB.out, rfl⟩
    | false =>
      rw [k35] at e35 hb
      cases k59 : (c == 59) with
      | true =>
        rw [k59] at e59 hb
        have HB := Lib.hid hb; clear hb k35 k59
        go_enter Tryd.func45, Tryd.ntmps45
        go_wp2_with (go_at_call 27; refine (trimR_any _ _ h63 _ HT.out).mono ?_; rintro e w' ⟨rfl, rfl⟩; rw [HX.out])
        go_ret
        exact ⟨ret_bool HB.out, rfl⟩
      | false =>
        rw [k59] at e59 hb
        have HB := Lib.hid hb; clear hb k35 k59
        go_enter Tryd.func45, Tryd.ntmps45
        go_wp2_with (go_at_call 27; refine (trimR_any _ _ h63 _ HT.out).mono ?_; rintro e w' ⟨rfl, rfl⟩; rw [HX.out])
        go_ret
        exact ⟨ret_bool HB.out, rfl⟩

theorem get_list (s : ByteArray) (k : Nat) (h : k < s.size) : s.data.toList[k]'(by simpa using h) = s[k] := rfl

set_option maxHeartbeats 1000000 in
theorem cleanR_any (s : ByteArray) (w : World) (h63 : s.size ≤ 9223372036854775807) (b : Bool) (hb : goodS s.data.toList = b) :
    Calls Tryd.prog 19 #[.string s] w fun e w' => e = .returned (.bool b) ∧ w = w' := by
  have HB := Lib.hid hb; clear hb
  go_enter Tryd.func19, Tryd.ntmps19
  go_wp2_with fail
  go_loopg [3] (s.size + 1) (fun f i wr => ∃ k : Nat, k ≤ s.size ∧ i = .int .i64 k ∧ s.size - k < f ∧ Hid (goodS (s.data.toList.take k) = true) ∧ w = wr)
  case atStart => exact ⟨0, Nat.zero_le _, rfl, by omega, rfl, rfl⟩
  case round =>
    obtain ⟨k, hk, rfl, hfu, hall, rfl⟩ := hrel
    by_cases hlt : k < s.size
    · have hsn := take_snoc s.data.toList k (by simpa using hlt)
      rw [get_list s k hlt] at hsn
      have hbi := isBad_iff s[k]
      cases hp : isBad s[k] with
      | false =>
        have HT := Lib.hid (show goodS (s.data.toList.take (k + 1)) = true by
          rw [hsn]; have := hall.out; unfold goodS at *; rw [List.all_append, this]; simp [hp])
        rw [hp] at hbi
        replace hbi := of_decide_eq_false hbi.symm
        clear hsn hp
        by_cases h32 : (s[k].toNat : Int) < 32
        · have h9 : ((s[k].toNat : Int) == 9) = true := by rw [beq_iff_eq]; omega
          have h9n : ((s[k].toNat : Int) != 9) = false := by rw [bne_eq_false_iff_eq]; omega
          have h127 : ((s[k].toNat : Int) == 127) = false := by rw [beq_eq_false_iff_ne]; omega
          have h127n : ((s[k].toNat : Int) != 127) = true := by rw [bne_iff_ne]; omega
          have q32 : decide ((s[k].toNat : Int) < 32) = true := by simpa using h32
          clear hbi h32
          go_wp2_with fail
          go_roundg (s.size - k)
          case measure => omega
          case rel => exact ⟨k + 1, by omega, by go_num, by omega, HT, rfl⟩
        · have h127 : ((s[k].toNat : Int) == 127) = false := by rw [beq_eq_false_iff_ne]; omega
          have h127n : ((s[k].toNat : Int) != 127) = true := by rw [bne_iff_ne]; omega
          have q32 : decide ((s[k].toNat : Int) < 32) = false := by simpa using h32
          clear hbi h32
          go_wp2_with fail
          go_roundg (s.size - k)
          case measure => omega
          case rel => exact ⟨k + 1, by omega, by go_num, by omega, HT, rfl⟩
      | true =>
        have HT := Lib.hid (show b = false by
          rw [← HB.out]; unfold goodS; rw [List.all_eq_false]
          exact ⟨s[k], by rw [← get_list s k hlt]; exact List.getElem_mem _, by simp [hp]⟩)
        rw [hp] at hbi
        replace hbi := of_decide_eq_true hbi.symm
        clear hsn hp
        by_cases h32 : (s[k].toNat : Int) < 32
        · by_cases hn9 : (s[k].toNat : Int) = 9
          · omega
          · have h9 : ((s[k].toNat : Int) == 9) = false := by rw [beq_eq_false_iff_ne]; omega
            have h9n : ((s[k].toNat : Int) != 9) = true := by rw [bne_iff_ne]; omega
            have q32 : decide ((s[k].toNat : Int) < 32) = true := by simpa using h32
            clear hbi hn9 h32
            go_wp2_with fail
            go_ret
            exact ⟨ret_bool HT.out.symm, rfl⟩
        · have h127 : ((s[k].toNat : Int) == 127) = true := by rw [beq_iff_eq]; omega
          have h127n : ((s[k].toNat : Int) != 127) = false := by rw [bne_eq_false_iff_eq]; omega
          have q32 : decide ((s[k].toNat : Int) < 32) = false := by simpa using h32
          clear hbi h32
          go_wp2_with fail
          go_ret
          exact ⟨ret_bool HT.out.symm, rfl⟩
    · have : k = s.size := by omega
      subst this
      have HT := Lib.hid (show b = true by
        have := hall.out
        rw [List.take_of_length_le (by simp)] at this
        rw [← HB.out, this])
      go_wp2_with fail
      go_ret
      exact ⟨ret_bool HT.out.symm, rfl⟩

def ofC (d : Bool) (c : UInt8) : Bool := isLetter c || (d && isDigit c)
set_option maxHeartbeats 1000000 in
theorem ofR_any (s : ByteArray) (n : Int) (d : Bool) (w : World) (h63 : s.size ≤ 9223372036854775807) (b : Bool) (hb : longB s.data.toList n (ofC d) = b) :
    Calls Tryd.prog 29 #[.string s, .int .i64 n, .bool d] w fun e w' => e = .returned (.bool b) ∧ w = w' := by
  have hlen : s.data.toList.length = s.size := by simp
  by_cases h0 : s.size = 0
  · have := str_nil h0
    subst this
    have : b = false := hb.symm
    subst this
    clear hb h0 hlen
    go_enter Tryd.func29, Tryd.ntmps29
    go_wp2
    go_ret
    exact ⟨rfl, rfl⟩
  · obtain ⟨n1, n2, n3, n4⟩ := str_ne h0
    have hne : s.data.toList.isEmpty = false := by rw [← ByteArray.toList_eq]; exact n1
    unfold longB at hb
    rw [hne, hlen] at hb
    clear hne hlen
    have h1 : ¬ (s.size : Int) < 1 := by omega
    by_cases hn : (s.size : Int) ≤ n
    · have hd : decide ((s.size : Int) ≤ n) = true := by simpa using hn
      rw [hd] at hb
      simp only [Bool.not_false, Bool.true_and] at hb
      have HB := Lib.hid hb
      have hn' : ¬ n < (s.size : Int) := by omega
      clear hb hd
      go_enter Tryd.func29, Tryd.ntmps29
      go_wp2_with fail
      go_loopg [7] (s.size + 1) (fun f i wr => ∃ k : Nat, k ≤ s.size ∧ i = .int .i64 k ∧ s.size - k < f ∧ Hid ((s.data.toList.take k).all (ofC d) = true) ∧ w = wr)
      case atStart => exact ⟨0, Nat.zero_le _, rfl, by omega, rfl, rfl⟩
      case round =>
        obtain ⟨k, hk, rfl, hfu, hall, rfl⟩ := hrel
        by_cases hlt : k < s.size
        · have hsn := take_snoc s.data.toList k (by simpa using hlt)
          rw [get_list s k hlt] at hsn
          cases hp : ofC d s[k] with
          | true =>
            have HT := Lib.hid (show (s.data.toList.take (k + 1)).all (ofC d) = true by
              rw [hsn, List.all_append, hall.out]; simp [hp])
            clear hsn
            unfold ofC at hp
            cases hl : isLetter s[k] with
            | true =>
              have HL := Lib.hid hl; clear hl hp
              go_wp2_with (go_at_call 47; refine (letterR_any _ _).mono ?_; rintro e w' ⟨rfl, rfl⟩; rw [HL.out])
              go_roundg (s.size - k)
              case measure => omega
              case rel => exact ⟨k + 1, by omega, by go_num, by omega, HT, rfl⟩
            | false =>
              rw [hl] at hp
              simp only [Bool.false_or, Bool.and_eq_true] at hp
              obtain ⟨hd1, hd2⟩ := hp
              subst hd1
              have HL := Lib.hid hl; clear hl
              have HD := Lib.hid hd2; clear hd2
              go_wp2_with (first
                | (go_at_call 47; refine (letterR_any _ _).mono ?_; rintro e w' ⟨rfl, rfl⟩; rw [HL.out])
                | (go_at_call 48; refine (digitR_any _ _).mono ?_; rintro e w' ⟨rfl, rfl⟩; rw [HD.out]))
              go_roundg (s.size - k)
              case measure => omega
              case rel => exact ⟨k + 1, by omega, by go_num, by omega, HT, rfl⟩
          | false =>
            have HT := Lib.hid (show b = false by
              rw [← HB.out, List.all_eq_false]
              exact ⟨s[k], by rw [← get_list s k hlt]; exact List.getElem_mem _, by simp [hp]⟩)
            clear hsn
            unfold ofC at hp
            rw [Bool.or_eq_false_iff] at hp
            obtain ⟨hl, hp⟩ := hp
            have HL := Lib.hid hl; clear hl
            cases d with
            | false =>
              clear hp
              go_wp2_with (go_at_call 47; refine (letterR_any _ _).mono ?_; rintro e w' ⟨rfl, rfl⟩; rw [HL.out])
              go_ret
              exact ⟨ret_bool HT.out.symm, rfl⟩
            | true =>
              simp only [Bool.true_and] at hp
              have HD := Lib.hid hp; clear hp
              go_wp2_with (first
                | (go_at_call 47; refine (letterR_any _ _).mono ?_; rintro e w' ⟨rfl, rfl⟩; rw [HL.out])
                | (go_at_call 48; refine (digitR_any _ _).mono ?_; rintro e w' ⟨rfl, rfl⟩; rw [HD.out]))
              go_ret
              exact ⟨ret_bool HT.out.symm, rfl⟩
        · have : k = s.size := by omega
          subst this
          have HT := Lib.hid (show b = true by
            have := hall.out
            rw [List.take_of_length_le (by simp)] at this
            rw [← HB.out, this])
          go_wp2_with fail
          go_ret
          exact ⟨ret_bool HT.out.symm, rfl⟩
    · have hd : decide ((s.size : Int) ≤ n) = false := by simpa using hn
      rw [hd] at hb
      have : b = false := hb.symm
      subst this
      have hn' : n < (s.size : Int) := by omega
      clear hb hd
      go_enter Tryd.func29, Tryd.ntmps29
      go_wp2
      go_ret
      exact ⟨rfl, rfl⟩
theorem sectR_any (s : ByteArray) (w : World) (h63 : s.size ≤ 9223372036854775807) (b : Bool) (hb : sectB s.data.toList = b) :
    Calls Tryd.prog 29 #[.string s, .int .i64 20, .bool false] w fun e w' => e = .returned (.bool b) ∧ w = w' := by
  refine ofR_any s 20 false w h63 b ?_
  rw [← hb, ← sectB_long]
  have : ofC false = isLetter := by funext c; simp [ofC]
  rw [this]
theorem keyR_any (s : ByteArray) (w : World) (h63 : s.size ≤ 9223372036854775807) (b : Bool) (hb : keyB s.data.toList = b) :
    Calls Tryd.prog 29 #[.string s, .int .i64 40, .bool true] w fun e w' => e = .returned (.bool b) ∧ w = w' := by
  refine ofR_any s 40 true w h63 b ?_
  rw [← hb, ← keyB_long]
  have : ofC true = fun c => isLetter c || isDigit c := by funext c; simp [ofC]
  rw [this]

theorem eqAt_nil : eqAtR [] = -1 := rfl
set_option maxHeartbeats 1000000 in
theorem equalsR_any (s : ByteArray) (w : World) (h63 : s.size ≤ 9223372036854775807) (n : Int) (hn : eqAtR s.data.toList = n) :
    Calls Tryd.prog 28 #[.string s] w fun e w' => e = .returned (.int .i64 n) ∧ w = w' := by
  have HN := Lib.hid hn; clear hn
  go_enter Tryd.func28, Tryd.ntmps28
  go_wp2_with fail
  go_loop [3] (fun i => ∃ k : Nat, k ≤ s.size ∧ i = .int .i64 k ∧ Hid ((s.data.toList.take k).contains 61 = false)) (fun i => s.size - (intOf i).toNat)
  case atStart => exact ⟨0, Nat.zero_le _, rfl, rfl⟩
  case round =>
    obtain ⟨k, hk, rfl, hall⟩ := hrel
    by_cases hlt : k < s.size
    · have hsn := take_snoc s.data.toList k (by simpa using hlt)
      rw [get_list s k hlt] at hsn
      have e61 : ((s[k].toNat : Int) == 61) = (s[k] == 61) := beqU' (by decide)
      cases hp : (s[k] == 61) with
      | false =>
        have HT := Lib.hid (show (s.data.toList.take (k + 1)).contains 61 = false by
          rw [hsn]
          have h1 := hall.out
          rw [← Bool.not_eq_true, List.contains_iff_mem] at h1 ⊢
          intro hm
          rcases List.mem_append.1 hm with hm | hm
          · exact h1 hm
          · simp at hm; rw [← hm] at hp; simp at hp)
        rw [hp] at e61
        clear hsn hp
        go_wp2_with fail
        go_round
        case rel => exact ⟨k + 1, by omega, by go_num, HT⟩
        case measure => simp [intOf]; omega
      | true =>
        have HT := Lib.hid (show n = (k : Int) by
          rw [← HN.out]
          have h1 : s.data.toList = s.data.toList.take k ++ 61 :: s.data.toList.drop (k + 1) := by
            have h2 := drop_cons s k hlt
            have h3 := eq_of_beq hp
            rw [h3] at h2
            rw [← h2, List.take_append_drop]
          rw [h1, eqAtR_app hall.out]
          simp; omega)
        rw [hp] at e61
        clear hsn hp
        go_wp2_with fail
        go_ret
        exact ⟨ret_int HT.out.symm, rfl⟩
    · have : k = s.size := by omega
      subst this
      have HT := Lib.hid (show n = -1 by
        have := hall.out
        rw [List.take_of_length_le (by simp)] at this
        rw [← HN.out, eqAtR_no this])
      go_wp2_with fail
      go_ret
      exact ⟨ret_int HT.out.symm, rfl⟩
end Go.Proofs.YtbgjpglnikbflaaDoor
