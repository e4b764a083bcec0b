/-
  The reference's safe, quoted.
-/
import Derived.Test.YtlcimhchkbaieaaRef1A
import Derived.Test.YtlcimhchkbaieaaWordsG
import Derived.Lib.SmallJoins
namespace Go.Proofs.Ytlcimhchkbaieaa
open Go Go.RowKit
set_option linter.unusedVariables false

inductive PCls (n : Int) : Prop where
  | low (h : n < 33)
  | high (h : 126 < n) (h1 : ¬ n < 33)
  | sq (h : (n == 39) = true) (h1 : ¬ n < 33) (h2 : ¬ 126 < n)
  | dq (h : (n == 34) = true) (h1 : ¬ n < 33) (h2 : ¬ 126 < n) (h3 : (n == 39) = false)
  | bs (h : (n == 92) = true) (h1 : ¬ n < 33) (h2 : ¬ 126 < n) (h3 : (n == 39) = false) (h4 : (n == 34) = false)
  | ok (h1 : ¬ n < 33) (h2 : ¬ 126 < n) (h3 : (n == 39) = false) (h4 : (n == 34) = false) (h5 : (n == 92) = false)
theorem pcls (n : Int) : PCls n := by
  by_cases h1 : n < 33
  · exact .low h1
  by_cases h2 : 126 < n
  · exact .high h2 h1
  cases h3 : (n == 39) with
  | true => exact .sq h3 h1 h2
  | false =>
    cases h4 : (n == 34) with
    | true => exact .dq h4 h1 h2 h3
    | false =>
      cases h5 : (n == 92) with
      | true => exact .bs h5 h1 h2 h3 h4
      | false => exact .ok h1 h2 h3 h4 h5

set_option maxHeartbeats 2000000 in
set_option maxRecDepth 100000 in
theorem refSafe_any (s : ByteArray) (w : World) (h63 : s.size ≤ 9223372036854775807) :
    Calls Try.prog 24 #[.string s] w fun e w' => e = .returned (.bool (plainB s.data.toList)) ∧ w = w' := by
  by_cases h0 : s.size = 0
  · have := str_nil h0
    subst this
    clear h0
    go_enter Try.func24, Try.ntmps24
    go_wp2
    go_ret
    exact ⟨rfl, rfl⟩
  · obtain ⟨n1, n2, n3, n4⟩ := str_ne h0
    have hl : s.data.toList = s[0] :: s.data.toList.drop 1 := drop_cons s 0 n3
    have HB := Lib.hid (show plainB s.data.toList = (s[0] != 45 && s.data.toList.all plainC) by rw [plainB_eq, hl])
    clear hl
    cases h45 : ((s[0].toNat : Int) == 45) with
    | true =>
      have h45' := bne_of h45
      have HR := Lib.hid (show plainB s.data.toList = false by rw [HB.out, bne, beq_u8, show ((45 : UInt8).toNat : Int) = 45 from rfl, h45]; rfl)
      go_enter Try.func24, Try.ntmps24
      go_wp2_with fail
      go_ret
      exact ⟨ret_bool HR.out.symm, rfl⟩
    | false =>
      have h45' := bne_of h45
      have HR := Lib.hid (show plainB s.data.toList = s.data.toList.all plainC by rw [HB.out, bne, beq_u8, show ((45 : UInt8).toNat : Int) = 45 from rfl, h45]; rfl)
      go_enter Try.func24, Try.ntmps24
      go_wp2_with fail
      go_loopg [3] (s.size + 1) (fun f i wr => ∃ k : Nat, k ≤ s.size ∧ i = .int .i64 k ∧ s.size - k < f ∧ Hid (plainB s.data.toList = (s.data.toList.drop k).all plainC) ∧ w = wr)
      case atStart => exact ⟨0, by omega, rfl, by omega, HR, rfl⟩
      case round =>
        obtain ⟨k, hk, rfl, hfu, HA, rfl⟩ := hrel
        by_cases hlt : k < s.size
        · have HC := Lib.hid (plainC_iff s[k])
          have HD := Lib.hid (drop_cons s k hlt)
          clear HR HB
          have bad : plainC s[k] = false → Hid (plainB s.data.toList = false) := fun h => Lib.hid (by rw [HA.out, HD.out, List.all_cons, h]; rfl)
          have good : plainC s[k] = true → Hid (plainB s.data.toList = (s.data.toList.drop (k + 1)).all plainC) := fun h => Lib.hid (by rw [HA.out, HD.out, List.all_cons, h]; rfl)
          rw [HC.out] at bad good
          have BAD := Lib.hid bad
          have GOOD := Lib.hid good
          clear bad good
          cases pcls (s[k].toNat : Int) with
          | low h =>
            have HR' := BAD.out (by simp; omega)
            go_wp2_with fail
            go_ret
            exact ⟨ret_bool HR'.out.symm, rfl⟩
          | high h h1 =>
            have HR' := BAD.out (by simp; omega)
            go_wp2_with fail
            go_ret
            exact ⟨ret_bool HR'.out.symm, rfl⟩
          | sq h h1 h2 =>
            have HR' := BAD.out (by have he := eq_of_beq h; simp; omega)
            go_wp2_with fail
            go_ret
            exact ⟨ret_bool HR'.out.symm, rfl⟩
          | dq h h1 h2 h3 =>
            have HR' := BAD.out (by have he := eq_of_beq h; simp; omega)
            go_wp2_with fail
            go_ret
            exact ⟨ret_bool HR'.out.symm, rfl⟩
          | bs h h1 h2 h3 h4 =>
            have HR' := BAD.out (by have he := eq_of_beq h; simp; omega)
            go_wp2_with fail
            go_ret
            exact ⟨ret_bool HR'.out.symm, rfl⟩
          | ok h1 h2 h3 h4 h5 =>
            have HA' := GOOD.out (by simp at h3 h4 h5 ⊢; omega)
            go_wp2_with fail
            go_roundg (s.size - k)
            case measure => omega
            case rel => exact ⟨k + 1, by omega, by go_num, by omega, HA', rfl⟩
        · have HR' := Lib.hid (show plainB s.data.toList = true by
            rw [HA.out, List.drop_eq_nil_of_le (by show s.size ≤ k; omega)]; rfl)
          go_wp2_with fail
          go_ret
          exact ⟨ret_bool HR'.out.symm, rfl⟩

theorem quoteByte1 {c : UInt8} (h : ((c.toNat : Int) == 34) = true ∨ ((c.toNat : Int) == 92) = true) : quoteByte c = [92, c] := by
  unfold quoteByte
  rw [beq_u8, beq_u8, show ((34 : UInt8).toNat : Int) = 34 from rfl, show ((92 : UInt8).toNat : Int) = 92 from rfl]
  rcases h with h | h <;> rw [h] <;> simp
theorem quoteByte2 {c : UInt8} (h : ((c.toNat : Int) == 34) = false) (h' : ((c.toNat : Int) == 92) = false) (h1 : (32 : Int) ≤ c.toNat) (h2 : (c.toNat : Int) ≤ 126) : quoteByte c = [c] := by
  unfold quoteByte
  rw [beq_u8, beq_u8, show ((34 : UInt8).toNat : Int) = 34 from rfl, show ((92 : UInt8).toNat : Int) = 92 from rfl, h, h']
  simp [UInt8.le_iff_toNat_le, UInt8.lt_iff_toNat_lt]; omega
theorem quoteByte3 {c : UInt8} (h : ((c.toNat : Int) == 34) = false) (h' : ((c.toNat : Int) == 92) = false) (h1 : ¬ ((32 : Int) ≤ c.toNat ∧ (c.toNat : Int) ≤ 126)) : quoteByte c = 92 :: 120 :: hexByte c := by
  unfold quoteByte
  rw [beq_u8, beq_u8, show ((34 : UInt8).toNat : Int) = 34 from rfl, show ((92 : UInt8).toNat : Int) = 92 from rfl, h, h']
  simp [UInt8.le_iff_toNat_le, UInt8.lt_iff_toNat_lt]; omega

/-- The string so far. -/
def QAt (s : ByteArray) (k : Nat) (x : ByteArray) : Prop := x.data.toList = 34 :: (s.data.toList.take k).flatMap quoteByte
theorem QAt.step {s : ByteArray} {k : Nat} {x : ByteArray} (h : QAt s k x) (hk : k < s.size) (y : ByteArray) (hy : y.data.toList = quoteByte s[k]) : QAt s (k + 1) (x ++ y) := by
  unfold QAt at *
  have hsn := take_snoc s.data.toList k (by simpa using hk)
  have hgk : s.data.toList[k]'(by simpa using hk) = s[k] := rfl
  rw [Joins.data_append, h, hy, hsn, hgk]
  simp

theorem QAt.size {s : ByteArray} {k : Nat} {x : ByteArray} (h : QAt s k x) : x.size ≤ 4 * k + 1 := by
  have h1 := flatMap_len (s.data.toList.take k)
  have h2 : (s.data.toList.take k).length ≤ k := List.length_take_le _ _
  have h3 : x.size = x.data.toList.length := rfl
  rw [h3, h, List.length_cons]
  omega

set_option maxHeartbeats 4000000 in
set_option maxRecDepth 100000 in
theorem refQuoted_any (s : ByteArray) (w : World) (hs : s.size < 137438953472) :
    Calls Try.prog 25 #[.string s] w fun e w' => e = .returned (.string ⟨(quoteS s.data.toList).toArray⟩) ∧ ∃ n, w' = w.drewN n := by
  go_enter Try.func25, Try.ntmps25
  go_wp2_with fail
  go_loopg [3, 4, 5] (s.size + 1) (fun f v i _ wr => ∃ (k : Nat) (x : ByteArray) (m : Nat), k ≤ s.size ∧ i = .int .i64 k ∧ s.size - k < f ∧ v = .string x ∧ Hid (QAt s k x) ∧ wr = w.drewN m)
  case atStart => exact ⟨0, ⟨#[34]⟩, 0, by omega, rfl, by omega, rfl, Lib.hid rfl, rfl⟩
  case round =>
    obtain ⟨k, x, m, hk, rfl, hfu, rfl, HX, rfl⟩ := hrel
    have hx := QAt.size HX.out
    by_cases hlt : k < s.size
    · have hk1 : (k : Int) + 1 ≤ (s.size : Int) := by omega
      have hex1 : (s.extract k (k + 1)).data.toList = [s[k]] := by
        rw [Lib.extract_data, drop_cons s k hlt]; simp
      have HE1 := Lib.hid hex1; clear hex1
      cases h34 : ((s[k].toNat : Int) == 34) with
      | true =>
        have HY := Lib.hid (QAt.step HX.out hlt ((⟨#[92]⟩ : ByteArray) ++ s.extract k (k + 1)) (by rw [Joins.data_append, HE1.out, quoteByte1 (.inl h34)]; rfl))
        go_wp2_with fail
        go_roundg (s.size - k)
        case measure => omega
        case rel => exact ⟨k + 1, _, _, by omega, by go_num, by omega, rfl, HY, rfl⟩
      | false =>
        cases h92 : ((s[k].toNat : Int) == 92) with
        | true =>
          have HY := Lib.hid (QAt.step HX.out hlt ((⟨#[92]⟩ : ByteArray) ++ s.extract k (k + 1)) (by rw [Joins.data_append, HE1.out, quoteByte1 (.inr h92)]; rfl))
          go_wp2_with fail
          go_roundg (s.size - k)
          case measure => omega
          case rel => exact ⟨k + 1, _, _, by omega, by go_num, by omega, rfl, HY, rfl⟩
        | false =>
          by_cases h32 : (32 : Int) ≤ s[k].toNat
          · by_cases h126 : (s[k].toNat : Int) ≤ 126
            · have HY := Lib.hid (QAt.step HX.out hlt (s.extract k (k + 1)) (by rw [HE1.out, quoteByte2 h34 h92 h32 h126]))
              go_wp2_with fail
              go_roundg (s.size - k)
              case measure => omega
              case rel => exact ⟨k + 1, _, _, by omega, by go_num, by omega, rfl, HY, rfl⟩
            · have HQ := quoteByte3 h34 h92 (by omega)
              have HY := Lib.hid (QAt.step HX.out hlt ((⟨#[92, 120]⟩ : ByteArray) ++ ⟨(hexByte s[k]).toArray⟩) (by rw [Joins.data_append, HQ]; rfl))
              have hh : (⟨(hexByte s[k]).toArray⟩ : ByteArray).size = 2 := rfl
              have hh' : (hexByte s[k]).length = 2 := rfl
              clear HQ
              have HC := hexByte_any s[k]
              generalize hexByte s[k] = hb at HY hh hh' HC
              go_wp2_with (go_at_call 40; refine (HC _).mono ?_; rintro e w' ⟨rfl, q, rfl⟩)
              go_wp2_with fail
              go_roundg (s.size - k)
              case measure => omega
              case rel => exact ⟨k + 1, _, _, by omega, by go_num, by omega, rfl, HY, by first | rfl | exact dn2 _ _ _⟩
          · have HQ := quoteByte3 h34 h92 (by omega)
            have HY := Lib.hid (QAt.step HX.out hlt ((⟨#[92, 120]⟩ : ByteArray) ++ ⟨(hexByte s[k]).toArray⟩) (by rw [Joins.data_append, HQ]; rfl))
            have hh : (⟨(hexByte s[k]).toArray⟩ : ByteArray).size = 2 := rfl
            have hh' : (hexByte s[k]).length = 2 := rfl
            clear HQ
            have HC := hexByte_any s[k]
            generalize hexByte s[k] = hb at HY hh hh' HC
            go_wp2_with (go_at_call 40; refine (HC _).mono ?_; rintro e w' ⟨rfl, q, rfl⟩)
            go_wp2_with fail
            go_roundg (s.size - k)
            case measure => omega
            case rel => exact ⟨k + 1, _, _, by omega, by go_num, by omega, rfl, HY, by first | rfl | exact dn2 _ _ _⟩
    · have HR := Lib.hid (show x ++ ⟨#[34]⟩ = (⟨(quoteS s.data.toList).toArray⟩ : ByteArray) by
        apply bytes_ext
        have h := HX.out
        unfold QAt at h
        rw [Joins.data_append, h, List.take_of_length_le (by show s.size ≤ k; omega)]
        simp [quoteS])
      go_wp2_with fail
      go_ret
      exact ⟨by rw [HR.out]; rfl, _, rfl⟩

end Go.Proofs.Ytlcimhchkbaieaa
