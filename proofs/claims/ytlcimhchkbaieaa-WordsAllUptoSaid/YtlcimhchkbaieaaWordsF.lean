/-
  Package words: the contracts of plain, quote, Join.
-/
import Derived.Test.YtlcimhchkbaieaaChars
import Derived.Shelf.Abstract
import Derived.Deep.LoopGhost
namespace Go.Proofs.Ytlcimhchkbaieaa
open Go Go.RowKit
set_option linter.unusedVariables false

def plainC (c : UInt8) : Bool := 32 < c && c < 127 && c != 39 && c != 34 && c != 92
theorem plainC_iff (c : UInt8) : plainC c = decide ((32 : Int) < c.toNat ∧ (c.toNat : Int) < 127 ∧ (c.toNat : Int) ≠ 39 ∧ (c.toNat : Int) ≠ 34 ∧ (c.toNat : Int) ≠ 92) := by
  rw [Bool.eq_iff_iff]; simp [plainC, ← UInt8.toNat_inj, UInt8.lt_iff_toNat_lt]; omega

set_option maxHeartbeats 1000000 in
set_option maxRecDepth 100000 in
theorem plain1_any (c : UInt8) (w : World) :
    Calls Try.prog 35 #[.int .u8 c.toNat] w fun e w' => e = .returned (.bool (plainC c)) ∧ w = w' := by
  have HE := Lib.hid (plainC_iff c)
  generalize plainC c = v at HE ⊢
  generalize (c.toNat : Int) = n at HE ⊢
  by_cases h1 : (32 : Int) < n
  · by_cases h2 : n < 127
    · cases h3 : (n == 39) with
      | true =>
        have h3' := bne_of h3
        have HP := Lib.hid (HE.out.trans <| show decide ((32 : Int) < n ∧ n < 127 ∧ n ≠ 39 ∧ n ≠ 34 ∧ n ≠ 92) = false by simp at h3; subst h3; rfl)
        go_enter Try.func35, Try.ntmps35
        go_wp2
        go_ret
        exact ⟨ret_bool HP.out.symm, rfl⟩
      | false =>
        have h3' := bne_of h3
        cases h4 : (n == 34) with
        | true =>
          have h4' := bne_of h4
          have HP := Lib.hid (HE.out.trans <| show decide ((32 : Int) < n ∧ n < 127 ∧ n ≠ 39 ∧ n ≠ 34 ∧ n ≠ 92) = false by simp at h4; subst h4; rfl)
          go_enter Try.func35, Try.ntmps35
          go_wp2
          go_ret
          exact ⟨ret_bool HP.out.symm, rfl⟩
        | false =>
          have h4' := bne_of h4
          have HP := Lib.hid (HE.out.trans <| show decide ((32 : Int) < n ∧ n < 127 ∧ n ≠ 39 ∧ n ≠ 34 ∧ n ≠ 92) = (n != 92) by
            rw [Bool.eq_iff_iff]; simp at h3 h4 ⊢; omega)
          go_enter Try.func35, Try.ntmps35
          go_wp2
          go_ret
          exact ⟨ret_bool HP.out.symm, rfl⟩
    · have HP := Lib.hid (HE.out.trans <| show decide ((32 : Int) < n ∧ n < 127 ∧ n ≠ 39 ∧ n ≠ 34 ∧ n ≠ 92) = false by simp; omega)
      go_enter Try.func35, Try.ntmps35
      go_wp2
      go_ret
      exact ⟨ret_bool HP.out.symm, rfl⟩
  · have HP := Lib.hid (HE.out.trans <| show decide ((32 : Int) < n ∧ n < 127 ∧ n ≠ 39 ∧ n ≠ 34 ∧ n ≠ 92) = false by simp; omega)
    go_enter Try.func35, Try.ntmps35
    go_wp2
    go_ret
    exact ⟨ret_bool HP.out.symm, rfl⟩

theorem plainB_eq (w : Str) : plainB w = (match w with | [] => false | c :: _ => c != 45 && w.all plainC) := by
  cases w <;> rfl

set_option maxHeartbeats 1000000 in
theorem plain_any (s : ByteArray) (w : World) (h63 : s.size ≤ 9223372036854775807) :
    Calls Try.prog 21 #[.string s] w fun e w' => e = .returned (.bool (plainB s.data.toList)) ∧ w = w' := by
  have HC := @all_any s 35 #[] #[] plainC w h63 (enters_of Try.func35 (by kernel_rfl) rfl) (fun c => plain1_any c w)
  by_cases h0 : s.size = 0
  · have := str_nil h0
    subst this
    clear h0 HC
    go_enter Try.func21, Try.ntmps21
    go_wp2
    go_ret
    exact ⟨rfl, rfl⟩
  · obtain ⟨n1, n2, n3, n4⟩ := str_ne h0
    have hl : s.data.toList = s[0] :: s.data.toList.drop 1 := drop_cons s 0 n3
    have HB := Lib.hid (show plainB s.data.toList = (s[0] != 45 && s.data.toList.all plainC) by rw [plainB_eq, hl])
    clear hl
    have HCC := Lib.hid HC; clear HC
    cases h45 : ((s[0].toNat : Int) == 45) with
    | true =>
      have h45' := bne_of h45
      have HR := Lib.hid (show plainB s.data.toList = false by rw [HB.out, bne, beq_u8, show ((45 : UInt8).toNat : Int) = 45 from rfl, h45]; rfl)
      go_enter Try.func21, Try.ntmps21
      go_wp2
      go_ret
      exact ⟨ret_bool HR.out.symm, rfl⟩
    | false =>
      have h45' := bne_of h45
      have HR := Lib.hid (show plainB s.data.toList = s.data.toList.all plainC by rw [HB.out, bne, beq_u8, show ((45 : UInt8).toNat : Int) = 45 from rfl, h45]; rfl)
      go_enter Try.func21, Try.ntmps21
      go_wp2_with (go_at_call 34; refine HCC.out.mono ?_; rintro e w' ⟨rfl, rfl⟩; rw [← HR.out])
      go_ret
      exact ⟨rfl, rfl⟩

theorem quoteByte_len (c : UInt8) : (quoteByte c).length ≤ 4 := by
  unfold quoteByte hexByte; split
  · simp
  · split <;> simp
theorem flatMap_len (l : Str) : (l.flatMap quoteByte).length ≤ 4 * l.length := by
  induction l with
  | nil => simp
  | cons a l ih => have := quoteByte_len a; simp only [List.flatMap_cons, List.length_append, List.length_cons]; omega

set_option maxHeartbeats 2000000 in
set_option maxRecDepth 100000 in
theorem quote_any (s : ByteArray) (w : World) (hs : s.size < 137438953472) :
    Calls Try.prog 22 #[.string s] w fun e w' => e = .returned (.string ⟨(quoteS s.data.toList).toArray⟩) ∧ Below w.heap.size w w' := by
  have hb0 := Bld.new w
  have hB0 : Below w.heap.size w (w.alloc (.cells #[.pointer none, .slice none 0 0] 38)) := (Below.refl _ _).alloc (Nat.le_refl _) _
  go_enter Try.func22, Try.ntmps22
  go_wp2_with fail
  generalize w.alloc (.cells #[.pointer none, .slice none 0 0] 38) = w1 at hb0 hB0 ⊢
  generalize hRn : w.heap.size = R at *
  have HRn := Lib.hid hRn; clear hRn
  refine (hb0.writeByte 34 (by simp)).mono ?_
  rintro e w2 ⟨rfl, hb2, hf2⟩
  have hB2 : Below R w w2 := hB0.trans (hf2.below R (by omega) (by omega) (by have := hb0.lt; omega))
  clear hb0 hB0 hf2
  go_wp2_with fail
  go_loopg [9] (s.size + 1) (fun f i wr => ∃ k : Nat, k ≤ s.size ∧ i = .int .i64 k ∧ s.size - k < f ∧ Bld R (R + 1) (34 :: (s.data.toList.take k).flatMap quoteByte) wr ∧ Below R w wr)
  case atStart => exact ⟨0, by omega, rfl, by omega, hb2, hB2⟩
  case round =>
    obtain ⟨k, hk, rfl, hfu, hb, hB⟩ := hrel
    have hlen := flatMap_len (s.data.toList.take k)
    have htk : (s.data.toList.take k).length ≤ k := List.length_take_le _ _
    have hlen' : (34 :: (s.data.toList.take k).flatMap quoteByte).length ≤ 4 * k + 1 := by simp only [List.length_cons]; omega
    have hRl := hb.lt
    have HB := Lib.hid hB; clear hB hlen htk
    by_cases hlt : k < s.size
    · have hsn := take_snoc s.data.toList k (by simpa using hlt)
      have hgk : s.data.toList[k]'(by simpa using hlt) = s[k] := rfl
      rw [hgk] at hsn
      have HS := Lib.hid (show 34 :: (s.data.toList.take (k + 1)).flatMap quoteByte = (34 :: (s.data.toList.take k).flatMap quoteByte) ++ quoteByte s[k] by rw [hsn]; simp)
      clear hsn hgk
      cases h34 : ((s[k].toNat : Int) == 34) with
      | true =>
        have HQ := Lib.hid (show quoteByte s[k] = [92] ++ [s[k]] by unfold quoteByte; rw [beq_u8, show ((34 : UInt8).toNat : Int) = 34 from rfl, h34]; rfl)
        go_wp2_with (go_at_call 36; refine (hb.writeByte 92 (by omega)).mono ?_)
        rintro e w3 ⟨rfl, hb3, hf3⟩
        go_wp2_with (go_at_call 36; refine (hb3.writeByte s[k] (by rw [List.length_append]; simp only [List.length_cons, List.length_nil] at hlen' ⊢; omega)).mono ?_)
        rintro e w4 ⟨rfl, hb4, hf4'⟩
        have hf4 := hf3.trans hf4'
        go_wp2_with fail
        go_roundg (s.size - k)
        case measure => omega
        case rel =>
          refine ⟨k + 1, by omega, by go_num, by omega, ?_, ?_⟩
          · rw [HS.out, HQ.out]; first | exact hb4 | (rw [← List.append_assoc]; exact hb4)
          · exact HB.out.trans (hf4.below R (by omega) (by omega) (by omega))
      | false =>
        cases h92 : ((s[k].toNat : Int) == 92) with
        | true =>
          have HQ := Lib.hid (show quoteByte s[k] = [92] ++ [s[k]] by unfold quoteByte; rw [beq_u8, beq_u8, show ((34 : UInt8).toNat : Int) = 34 from rfl, show ((92 : UInt8).toNat : Int) = 92 from rfl, h34, h92]; rfl)
          go_wp2_with (go_at_call 36; refine (hb.writeByte 92 (by omega)).mono ?_)
          rintro e w3 ⟨rfl, hb3, hf3⟩
          go_wp2_with (go_at_call 36; refine (hb3.writeByte s[k] (by rw [List.length_append]; simp only [List.length_cons, List.length_nil] at hlen' ⊢; omega)).mono ?_)
          rintro e w4 ⟨rfl, hb4, hf4'⟩
          have hf4 := hf3.trans hf4'
          go_wp2_with fail
          go_roundg (s.size - k)
          case measure => omega
          case rel =>
            refine ⟨k + 1, by omega, by go_num, by omega, ?_, ?_⟩
            · rw [HS.out, HQ.out]; first | exact hb4 | (rw [← List.append_assoc]; exact hb4)
            · exact HB.out.trans (hf4.below R (by omega) (by omega) (by omega))
        | false =>
          have hN : (s[k] == 34 || s[k] == 92) = false := by rw [beq_u8, beq_u8, show ((34 : UInt8).toNat : Int) = 34 from rfl, show ((92 : UInt8).toNat : Int) = 92 from rfl, h34, h92]; rfl
          by_cases h32 : (32 : Int) ≤ s[k].toNat
          · by_cases h127 : (s[k].toNat : Int) < 127
            · have HQ := Lib.hid (show quoteByte s[k] = [s[k]] by
                unfold quoteByte; rw [hN]; simp [UInt8.le_iff_toNat_le, UInt8.lt_iff_toNat_lt]; omega)
              clear hN
              go_wp2_with (go_at_call 36; refine (hb.writeByte s[k] (by omega)).mono ?_)
              rintro e w4 ⟨rfl, hb4, hf4⟩
              go_wp2_with fail
              go_roundg (s.size - k)
              case measure => omega
              case rel =>
                refine ⟨k + 1, by omega, by go_num, by omega, ?_, ?_⟩
                · rw [HS.out, HQ.out]; first | exact hb4 | (rw [← List.append_assoc]; exact hb4)
                · exact HB.out.trans (hf4.below R (by omega) (by omega) (by omega))
            · have HQ := Lib.hid (show quoteByte s[k] = 92 :: 120 :: hexByte s[k] by
                unfold quoteByte; rw [hN]; simp [UInt8.le_iff_toNat_le, UInt8.lt_iff_toNat_lt]; omega)
              clear hN
              have hh : (⟨(92 :: 120 :: hexByte s[k]).toArray⟩ : ByteArray).size = 4 := rfl
              have hws : (34 :: (s.data.toList.take k).flatMap quoteByte).length + (⟨(92 :: 120 :: hexByte s[k]).toArray⟩ : ByteArray).size < 1099511627776 := by omega
              clear hh
              go_wp2_with (go_at_call 38; refine (byte_any s[k] _).mono ?_; rintro e w3 ⟨rfl, n, rfl⟩)
              go_wp2_with fail
              refine (Bld.writeString (by exact hb.drewN _) ⟨(92 :: 120 :: hexByte s[k]).toArray⟩ hws).mono ?_
              rintro e w4 ⟨rfl, hb4, hf4'⟩
              have hf4 := (FrB.drewN (FrB.refl R (R + 1) _ wr) n).trans hf4'
              go_wp2_with fail
              go_roundg (s.size - k)
              case measure => omega
              case rel =>
                refine ⟨k + 1, by omega, by go_num, by omega, ?_, ?_⟩
                · rw [HS.out, HQ.out]; exact hb4
                · exact HB.out.trans (hf4.below R (by omega) (by omega) (by omega))
          · have HQ := Lib.hid (show quoteByte s[k] = 92 :: 120 :: hexByte s[k] by
              unfold quoteByte; rw [hN]; simp [UInt8.le_iff_toNat_le, UInt8.lt_iff_toNat_lt]; omega)
            clear hN
            have hh : (⟨(92 :: 120 :: hexByte s[k]).toArray⟩ : ByteArray).size = 4 := rfl
            have hws : (34 :: (s.data.toList.take k).flatMap quoteByte).length + (⟨(92 :: 120 :: hexByte s[k]).toArray⟩ : ByteArray).size < 1099511627776 := by omega
            clear hh
            go_wp2_with (go_at_call 38; refine (byte_any s[k] _).mono ?_; rintro e w3 ⟨rfl, n, rfl⟩)
            go_wp2_with fail
            refine (Bld.writeString (by exact hb.drewN _) ⟨(92 :: 120 :: hexByte s[k]).toArray⟩ hws).mono ?_
            rintro e w4 ⟨rfl, hb4, hf4'⟩
            have hf4 := (FrB.drewN (FrB.refl R (R + 1) _ wr) n).trans hf4'
            go_wp2_with fail
            go_roundg (s.size - k)
            case measure => omega
            case rel =>
              refine ⟨k + 1, by omega, by go_num, by omega, ?_, ?_⟩
              · rw [HS.out, HQ.out]; exact hb4
              · exact HB.out.trans (hf4.below R (by omega) (by omega) (by omega))
    · have : k = s.size := by omega
      subst this
      have HE := Lib.hid (show quoteS s.data.toList = (34 :: (s.data.toList.take s.size).flatMap quoteByte) ++ [34] by
        rw [List.take_of_length_le (by simp)]; rfl)
      go_wp2_with (go_at_call 36; refine (hb.writeByte 34 (by omega)).mono ?_)
      rintro e w3 ⟨rfl, hb3, hf3⟩
      go_wp2_with (go_at_call 31; refine hb3.string.mono ?_; rintro e w4 ⟨rfl, hb4, hf4⟩)
      go_ret
      refine ⟨by rw [HE.out]; rfl, ?_⟩
      rw [HRn.out]
      exact HB.out.trans ((hf3.trans hf4).below R (by omega) (by omega) (by omega))
end Go.Proofs.Ytlcimhchkbaieaa
