/-
  matinslaw7: LinesRemarks' walk.
-/
import Derived.Test.YtbgjpglnikbflaaDoorLaw7P
import Derived.Test.YtbgjpglnikbflaaDoorLawLn
import Derived.Test.YtbgjpglnikbflaaDoorLinesO
import Derived.Test.YtbgjpglnikbflaaDoorMask
namespace Go.Proofs.YtbgjpglnikbflaaDoor
open Go Go.RowKit
set_option linter.unusedVariables false
set_option maxRecDepth 100000

/-- The early answers. -/
inductive RemCase (may : Bool) (n : Nat) (clean : Bool) (m : Nat) : Prop where
  | may (h : may = false)
  | long (h : may = true) (h1 : (60 : Int) < (n : Int))
  | clean (h : may = true) (h1 : ¬ (60 : Int) < (n : Int)) (h2 : clean = false)
  | big (h : may = true) (h1 : ¬ (60 : Int) < (n : Int)) (h2 : clean = true) (h3 : (100 : Int) < (m : Int))
  | on (h : may = true) (h1 : ¬ (60 : Int) < (n : Int)) (h2 : clean = true) (h3 : ¬ (100 : Int) < (m : Int))
theorem remCase (may : Bool) (n : Nat) (clean : Bool) (m : Nat) : RemCase may n clean m := by
  cases may with
  | false => exact .may rfl
  | true =>
    by_cases h1 : (60 : Int) < (n : Int)
    · exact .long rfl h1
    · cases clean with
      | false => exact .clean rfl h1 rfl
      | true =>
        by_cases h3 : (100 : Int) < (m : Int)
        · exact .big rfl h1 rfl h3
        · exact .on rfl h1 rfl h3

/-- Are rows put in behind the n-th row? -/
def condS (x : Nat) (n : Nat) : Bool := x == 0 || n % 3 == x
theorem ins_bytes (mb : ByteArray) : (((⟨#[32, 9, 10, 32, 32, 35]⟩ : ByteArray) ++ mb) ++ ⟨#[10, 59, 10]⟩).data.toList = insS mb.data.toList := by
  rw [Joins.data_append, Joins.data_append]; rfl
theorem ins_size (mb : ByteArray) : (((⟨#[32, 9, 10, 32, 32, 35]⟩ : ByteArray) ++ mb) ++ ⟨#[10, 59, 10]⟩).size = mb.size + 9 := by
  rw [ByteArray.size_append, ByteArray.size_append]; show 6 + mb.size + 3 = _; omega
theorem one_byte (sb : ByteArray) (k : Nat) (h : k < sb.size) : (sb.extract k (k + 1)).data.toList = [sb[k]] := by
  rw [Lib.extract_data, drop_cons sb k h]; simp

set_option maxHeartbeats 4000000 in
theorem remarks_walk (oa : Option Addr) (cap : Nat) (l : List Ln) (every : Int) (mb : ByteArray) (w : World) (h : LnRow w oa l) (hz : sumLn l ≤ 1048576) (hmb : mb.size ≤ 1048576) (hm : MaxAt w) :
    Calls Tryd.prog 7 #[.slice oa l.length cap, .int .i64 every, .string mb] w fun e w' => e = .returned (.bool true) ∧ Below w.heap.size w w' := by
  obtain ⟨hl, hx, hw⟩ := sumLn_small hz
  have HX := Lib.hid hx; clear hx
  have HR := Lib.hid h; clear h
  have g1 := guard_fault
  obtain ⟨b, hb⟩ : ∃ b, mayS l = b := ⟨_, rfl⟩
  obtain ⟨c, hc⟩ : ∃ c, goodS mb.data.toList = c := ⟨_, rfl⟩
  have HMay := fun w => Lib.hid (show LnRow w oa l → Calls Tryd.prog 14 #[.slice oa l.length cap] w fun e w' => e = .returned (.bool b) ∧ Below w.heap.size w w' from fun h => mayAll_any oa cap l w h hl HX.out hw b hb)
  have HCl := Lib.hid (show ∀ w, Calls Tryd.prog 19 #[.string mb] w fun e w' => e = .returned (.bool c) ∧ w = w' from fun w => cleanR_any mb w (by omega) c hc)
  have hcase := remCase b l.length c mb.size
  cases hcase with
  | may h0 =>
    subst h0
    clear hb hc
    go_enter Tryd.func7, Tryd.ntmps7
    go_wp2_with fail
    refine (shown_any _ hm).mono ?_
    rintro e w1 ⟨rfl, hb1⟩
    have HB1 := Lib.hid hb1; clear hb1 hm
    go_wp2_with fail
    refine ((HMay _).out (HR.out.below HB1.out (Nat.le_refl _))).mono ?_
    rintro e w2 ⟨rfl, hb2⟩
    have HB2 := Lib.hid (HB1.out.trans (hb2.mono HB1.out.size)); clear hb2 HB1
    go_wp2_with fail
    go_ret
    exact ⟨rfl, HB2.out⟩
  | long h0 h1 =>
    subst h0
    clear hb hc
    go_enter Tryd.func7, Tryd.ntmps7
    go_wp2_with fail
    refine (shown_any _ hm).mono ?_
    rintro e w1 ⟨rfl, hb1⟩
    have HB1 := Lib.hid hb1; clear hb1 hm
    go_wp2_with fail
    refine ((HMay _).out (HR.out.below HB1.out (Nat.le_refl _))).mono ?_
    rintro e w2 ⟨rfl, hb2⟩
    have HB2 := Lib.hid (HB1.out.trans (hb2.mono HB1.out.size)); clear hb2 HB1
    go_wp2_with fail
    go_ret
    exact ⟨rfl, HB2.out⟩
  | clean h0 h1 h2 =>
    subst h0; subst h2
    clear hb hc
    go_enter Tryd.func7, Tryd.ntmps7
    go_wp2_with fail
    refine (shown_any _ hm).mono ?_
    rintro e w1 ⟨rfl, hb1⟩
    have HB1 := Lib.hid hb1; clear hb1 hm
    go_wp2_with fail
    refine ((HMay _).out (HR.out.below HB1.out (Nat.le_refl _))).mono ?_
    rintro e w2 ⟨rfl, hb2⟩
    have HB2 := Lib.hid (HB1.out.trans (hb2.mono HB1.out.size)); clear hb2 HB1
    go_wp2_with fail
    refine (HCl.out _).mono ?_
    rintro e w' ⟨rfl, rfl⟩
    go_wp2_with fail
    go_ret
    exact ⟨rfl, HB2.out⟩
  | big h0 h1 h2 h3 =>
    subst h0; subst h2
    clear hb hc
    go_enter Tryd.func7, Tryd.ntmps7
    go_wp2_with fail
    refine (shown_any _ hm).mono ?_
    rintro e w1 ⟨rfl, hb1⟩
    have HB1 := Lib.hid hb1; clear hb1 hm
    go_wp2_with fail
    refine ((HMay _).out (HR.out.below HB1.out (Nat.le_refl _))).mono ?_
    rintro e w2 ⟨rfl, hb2⟩
    have HB2 := Lib.hid (HB1.out.trans (hb2.mono HB1.out.size)); clear hb2 HB1
    go_wp2_with fail
    refine (HCl.out _).mono ?_
    rintro e w' ⟨rfl, rfl⟩
    go_wp2_with fail
    go_ret
    exact ⟨rfl, HB2.out⟩
  | on h0 h1 h2 h3 =>
    subst h0; subst h2
    have hm100 : mb.size ≤ 100 := by omega
    have hno := good_no10 hc
    have h20 := (mayS_parts hb).2
    obtain ⟨x, hx1, hx2⟩ := mask_i64 every 3 (by omega)
    have hx3 : bits .and .i64 every 3 = (x : Int) := hx2
    have hs : printS l = writeS l := by unfold printS; rw [hb]; rfl
    obtain ⟨sb, hsb⟩ : ∃ sb : ByteArray, sb = ⟨(writeS l).toArray⟩ := ⟨_, rfl⟩
    have hsl : sb.data.toList = writeS l := by rw [hsb]
    have hss : sb.size ≤ 20000 := by rw [hsb]; exact h20
    have HPr := fun w => Lib.hid (show LnRow w oa l → Calls Tryd.prog 16 #[.slice oa l.length cap] w fun e w' => e = .returned (.string sb) ∧ Below w.heap.size w w' from fun h => by
      rw [hsb]; exact print_any oa cap l w h hl HX.out hw _ hs)
    obtain ⟨T, hT⟩ : ∃ T, mixS (condS x) mb.data.toList sb.data.toList [] 0 [] = T := ⟨_, rfl⟩
    have hpm := fun hlen => parse_mix hb (condS x) hno (by rw [hsl] at hT; rw [hT]; exact hlen)
    rw [hsl] at hT
    rw [hT] at hpm
    rw [← hsl] at hT
    have HPm := Lib.hid hpm; clear hpm
    have HT := Lib.hid hT; clear hT
    clear hb hc hx2 hs hsb hsl hno
    go_enter Tryd.func7, Tryd.ntmps7
    go_wp2_with fail
    refine (shown_any _ hm).mono ?_
    rintro e w1 ⟨rfl, hb1⟩
    have HB1 := Lib.hid hb1; clear hb1
    go_wp2_with fail
    refine ((HMay _).out (HR.out.below HB1.out (Nat.le_refl _))).mono ?_
    rintro e w2 ⟨rfl, hb2⟩
    have HB2 := Lib.hid (HB1.out.trans (hb2.mono HB1.out.size)); clear hb2 HB1
    go_wp2_with fail
    refine (HCl.out _).mono ?_
    rintro e w' ⟨rfl, rfl⟩
    go_wp2_with fail
    refine ((HPr _).out (HR.out.below HB2.out (Nat.le_refl _))).mono ?_
    rintro e w3 ⟨rfl, hb3⟩
    have HB3 := Lib.hid (HB2.out.trans (hb3.mono HB2.out.size)); clear hb3 HB2
    have hm3 := hm.below HB3.out; clear hm
    go_wp2_with fail
    go_loopg [7, 8, 9, 11] (sb.size + 1) (fun f tv rv nv i wr => ∃ (k n : Nat) (tb rb : ByteArray), k ≤ sb.size ∧ n ≤ k ∧ i = .int .i64 k ∧ nv = .int .i64 n ∧ tv = .string tb ∧ rv = .string rb ∧ sb.size - k < f ∧ tb.size + rb.size ≤ 200 * k ∧
      Hid (mixS (condS x) mb.data.toList (sb.data.toList.drop k) rb.data.toList n tb.data.toList = T) ∧ w3 = wr)
    case atStart => exact ⟨0, 0, ⟨#[]⟩, ⟨#[]⟩, by omega, by omega, rfl, rfl, rfl, rfl, by omega, by decide, HT.out, rfl⟩
    case round =>
      obtain ⟨k, n, tb, rb, hk, hnk, rfl, rfl, rfl, rfl, hfu, hsz, Hq, rfl⟩ := hrel
      by_cases hlt : k < sb.size
      · have hdc := drop_cons sb k hlt
        have e10 : ((sb[k].toNat : Int) == 10) = (sb[k] == 10) := beqU' (by decide)
        have hob := one_byte sb k hlt
        have hrs : (rb ++ sb.extract k (k + 1)).size = rb.size + 1 := by rw [ByteArray.size_append, ByteArray.size_extract]; omega
        have hk1 : (k : Int) + 1 ≤ (sb.size : Int) := by omega
        have hq := Hq.out
        rw [hdc] at hq
        unfold mixS at hq
        cases hc10 : (sb[k] == 10) with
        | false =>
          rw [hc10] at hq e10
          have e10' := bne_of e10
          have HN := Lib.hid (show mixS (condS x) mb.data.toList (sb.data.toList.drop (k + 1)) (rb ++ sb.extract k (k + 1)).data.toList n tb.data.toList = T by
            rw [Joins.data_append, hob]; exact hq)
          have hb2 : tb.size + (rb ++ sb.extract k (k + 1)).size ≤ 200 * (k + 1) := by rw [hrs]; omega
          clear hdc hob hrs hq hc10
          go_wp2_with fail
          go_roundg (sb.size - k)
          case measure => omega
          case rel => exact ⟨k + 1, n, tb, rb ++ sb.extract k (k + 1), by omega, by omega, by go_num, rfl, rfl, rfl, by omega, hb2, HN, rfl⟩
        | true =>
          rw [hc10] at hq e10
          have e10' := bne_of e10
          simp only [if_true] at hq
          have hbk : (sb[k] : UInt8) = 10 := eq_of_beq hc10
          cases hcn : condS x (n + 1) with
          | true =>
            rw [hcn] at hq
            have HN := Lib.hid (show mixS (condS x) mb.data.toList (sb.data.toList.drop (k + 1)) (⟨#[]⟩ : ByteArray).data.toList (n + 1) ((tb ++ (rb ++ sb.extract k (k + 1))) ++ (((⟨#[32, 9, 10, 32, 32, 35]⟩ : ByteArray) ++ mb) ++ ⟨#[10, 59, 10]⟩)).data.toList = T by
              rw [Joins.data_append, Joins.data_append, Joins.data_append, ins_bytes, hob]; exact hq)
            have hb2 : ((tb ++ (rb ++ sb.extract k (k + 1))) ++ (((⟨#[32, 9, 10, 32, 32, 35]⟩ : ByteArray) ++ mb) ++ ⟨#[10, 59, 10]⟩)).size + (⟨#[]⟩ : ByteArray).size ≤ 200 * (k + 1) := by
              rw [ByteArray.size_append, ByteArray.size_append, hrs, ins_size]; show _ + 0 ≤ _; omega
            clear hdc hob hrs hq hc10 hbk
            by_cases hx0 : x = 0
            · subst hx0
              clear hcn
              go_wp2_with fail
              go_roundg (sb.size - k)
              case measure => omega
              case rel => exact ⟨k + 1, n + 1, _, ⟨#[]⟩, by omega, by omega, by go_num, by go_num, rfl, rfl, by omega, hb2, HN, rfl⟩
            · have hxe : ((x : Int) == 0) = false := by rw [beq_eq_false_iff_ne]; omega
              have hn3 : (((n : Int) + 1) % 3 == (x : Int)) = true := by
                unfold condS at hcn
                rw [Bool.or_eq_true, beq_iff_eq, beq_iff_eq] at hcn
                rw [beq_iff_eq]; omega
              clear hcn
              go_wp2_with fail
              go_roundg (sb.size - k)
              case measure => omega
              case rel => exact ⟨k + 1, n + 1, _, ⟨#[]⟩, by omega, by omega, by go_num, by go_num, rfl, rfl, by omega, hb2, HN, rfl⟩
          | false =>
            rw [hcn] at hq
            have HN := Lib.hid (show mixS (condS x) mb.data.toList (sb.data.toList.drop (k + 1)) (⟨#[]⟩ : ByteArray).data.toList (n + 1) (tb ++ (rb ++ sb.extract k (k + 1))).data.toList = T by
              rw [Joins.data_append, Joins.data_append, hob]
              simp only [Bool.false_eq_true, if_false, List.append_nil] at hq
              exact hq)
            have hb2 : (tb ++ (rb ++ sb.extract k (k + 1))).size + (⟨#[]⟩ : ByteArray).size ≤ 200 * (k + 1) := by
              rw [ByteArray.size_append, hrs]; show _ + 0 ≤ _; omega
            clear hdc hob hrs hq hc10 hbk
            have hxe : ((x : Int) == 0) = false := by
              unfold condS at hcn
              rw [Bool.or_eq_false_iff, beq_eq_false_iff_ne] at hcn
              rw [beq_eq_false_iff_ne]; omega
            have hn3 : (((n : Int) + 1) % 3 == (x : Int)) = false := by
              unfold condS at hcn
              rw [Bool.or_eq_false_iff, beq_eq_false_iff_ne, beq_eq_false_iff_ne] at hcn
              rw [beq_eq_false_iff_ne]; omega
            clear hcn
            go_wp2_with fail
            go_roundg (sb.size - k)
            case measure => omega
            case rel => exact ⟨k + 1, n + 1, _, ⟨#[]⟩, by omega, by omega, by go_num, by go_num, rfl, rfl, by omega, hb2, HN, rfl⟩
      · have : k = sb.size := by omega
        subst this
        have hq := Hq.out
        rw [List.drop_eq_nil_of_le (by simp)] at hq
        simp only [mixS] at hq
        have htl : tb.data.toList.length = tb.size := by simp
        by_cases h2 : tb.size ≤ 20000
        · have h2' : ¬ (20000 : Int) < (tb.size : Int) := by omega
          obtain ⟨m, hpa, hsame⟩ := HPm.out (by rw [← hq, htl]; exact h2)
          rw [← hq] at hpa
          have HPa := Lib.hid hpa
          have HS := Lib.hid hsame
          clear hq htl hpa hsame
          have r1 := run_eql_fault 0 0 0 0 true (by decide)
          go_wp2_with fail
          refine (parse_all _ _ hm3 (by omega) _ HPa.out).mono ?_
          rintro e w5 ⟨hb5, v, rfl, hv⟩
          obtain ⟨ob, capm, rfl⟩ := ownsRow_form hv
          have HM5 := Lib.hid (LnRow.of_own hv)
          have HB5 := Lib.hid (HB3.out.trans (hb5.mono HB3.out.size)); clear hb5 hv
          unfold faultV
          have ha5 := (Below.refl w5.heap.size w5).alloc (Nat.le_refl _) (.cells #[.int .i64 0, .int .i64 0] 26)
          have HM6 := Lib.hid (HM5.out.below ha5 (Nat.le_refl _)); clear HM5
          have HB6 := Lib.hid (HB5.out.trans (ha5.mono HB5.out.size)); clear HB5 ha5
          go_wp2_with fail
          refine (same_yes oa ob cap capm l m _ (HR.out.below HB6.out (Nat.le_refl _)) HM6.out hl HS.out).mono ?_
          rintro e w8 ⟨rfl, hb8⟩
          have HB8 := Lib.hid (HB6.out.trans (hb8.mono HB6.out.size)); clear hb8 HB6
          go_wp2_with fail
          go_ret
          exact ⟨rfl, HB8.out⟩
        · have h2' : (20000 : Int) < (tb.size : Int) := by omega
          have hpa : parseS tb.data.toList = .error (2, 0) := by
            unfold parseS; rw [if_neg (by rw [htl]; exact h2)]
          have HPa := Lib.hid hpa
          clear hq htl hpa
          go_wp2_with fail
          refine (parse_all _ _ hm3 (by omega) _ HPa.out).mono ?_
          rintro e w5 ⟨hb5, rfl⟩
          have HB5 := Lib.hid (HB3.out.trans (hb5.mono HB3.out.size)); clear hb5
          unfold faultV
          have ha5 := (Below.refl w5.heap.size w5).alloc (Nat.le_refl _) (.cells #[.int .i64 2, .int .i64 0] 26)
          have HB6 := Lib.hid (HB5.out.trans (ha5.mono HB5.out.size)); clear HB5 ha5
          go_wp2_with fail
          go_ret
          exact ⟨rfl, HB6.out⟩
end Go.Proofs.YtbgjpglnikbflaaDoor
