/-
  matinslaw5: WordsQuote's walk.
-/
import Derived.Test.YtlcimhchkbaieaaLaw5A
import Derived.Test.YtlcimhchkbaieaaWordsL
import Derived.Lib.SmallJoins
namespace Go.Proofs.Ytlcimhchkbaieaa
open Go Go.RowKit
set_option linter.unusedVariables false

theorem data_add (a b : ByteArray) : (a ++ b).data.toList = a.data.toList ++ b.data.toList := Joins.data_append a b

/-- A row of one byte, just laid, as a string. -/
theorem conv1 (w : World) (n : Nat) (hn : n = w.heap.size) (q : UInt8) :
    (convert 33 9 (.slice (some ⟨n, 0, none⟩) 1 1)).run Try.prog (w.alloc (.cells #[.int .u8 q.toNat] 5)) = .ok (.string ⟨#[q]⟩) (w.alloc (.cells #[.int .u8 q.toNat] 5)) := by
  subst hn
  rw [run_convert_bytes_string _ _ _ 5 _ _ _ Try.underlying33 Try.underlying5 Try.underlying9]
  rw [run_bytesToString _ _ _ _ [(q.toNat : Int)] (by
    have hc : (w.alloc (.cells #[.int .u8 q.toNat] 5)).cell? ⟨w.heap.size, 0, none⟩ = some (.int .u8 q.toNat) := by simp
    simp [loadCells, loadCellsFrom, Addr.add])]
  simp
  rfl

theorem clean_snoc {q : UInt8} {s : ByteArray} {k : Nat} (hk : k < s.size) (h : ∀ c ∈ s.data.toList.take k, isBad c = false ∧ c ≠ q ∧ c ≠ 92) (hc : isBad s[k] = false ∧ s[k] ≠ q ∧ s[k] ≠ 92) :
    ∀ c ∈ s.data.toList.take (k + 1), isBad c = false ∧ c ≠ q ∧ c ≠ 92 := by
  intro c hm
  rw [take_snoc s.data.toList k (by simpa using hk)] at hm
  rcases List.mem_append.1 hm with hm | hm
  · exact h c hm
  · have : c = s.data.toList[k]'(by simpa using hk) := by simpa using hm
    subst this; exact hc

theorem clean_of {q c : UInt8} {n : Int} (hn : (c.toNat : Int) = n) (hb : ¬ ((n < 32 ∧ n ≠ 9) ∨ n = 127)) (hq : (n == (q.toNat : Int)) = false) (h92 : (n == 92) = false) : isBad c = false ∧ c ≠ q ∧ c ≠ 92 := by
  subst hn
  refine ⟨?_, ?_, ?_⟩
  · rw [isBad_iff]; exact decide_eq_false hb
  · intro e; subst e; simp at hq
  · intro e; subst e; simp at h92

set_option maxHeartbeats 4000000 in
set_option maxRecDepth 100000 in
theorem quote_single (s : ByteArray) (w : World) (hs : s.size ≤ 1048576) :
    Calls Try.prog 7 #[.string s, .bool false] w fun e w' => e = .returned (.bool true) ∧ Below w.heap.size w w' := by
  go_enter Try.func7, Try.ntmps7
  go_wp2_with (go_at_call 8; refine (shown_any _).mono ?_)
  rintro e w1 ⟨rfl, hb1⟩
  have Hb1 := Lib.hid hb1; clear hb1
  go_wp2_with fail
  go_loop [6] (fun i => ∃ k : Nat, k ≤ s.size ∧ i = .int .i64 k ∧ Hid (∀ c ∈ s.data.toList.take k, isBad c = false ∧ c ≠ 39 ∧ c ≠ 92)) (fun i => s.size - (intOf i).toNat)
  case atStart => exact ⟨0, by omega, rfl, by simp [Hid]⟩
  case round =>
    obtain ⟨k, hk, rfl, Hq⟩ := hrel
    by_cases hlt : k < s.size
    · by_cases h32 : (s[k].toNat : Int) < 32
      · cases h9 : ((s[k].toNat : Int) != 9) with
        | true =>
          go_wp2_with fail
          go_ret
          exact ⟨rfl, Hb1.out⟩
        | false =>
          have e9 : (s[k].toNat : Int) = 9 := by simpa using h9
          have h127 : ((s[k].toNat : Int) == 127) = false := by rw [beq_eq_false_iff_ne]; omega
          have hqq : ((s[k].toNat : Int) == 39) = false := by rw [beq_eq_false_iff_ne]; omega
          have h92 : ((s[k].toNat : Int) == 92) = false := by rw [beq_eq_false_iff_ne]; omega
          have HC := Lib.hid (clean_snoc (q := 39) hlt Hq.out (clean_of rfl (by omega) hqq h92))
          clear e9
          go_wp2_with fail
          go_round
          case rel => exact ⟨k + 1, by omega, by go_num, HC⟩
          case measure => simp [intOf]; omega
      · cases h127 : ((s[k].toNat : Int) == 127) with
        | true =>
          go_wp2_with fail
          go_ret
          exact ⟨rfl, Hb1.out⟩
        | false =>
          cases hqq : ((s[k].toNat : Int) == 39) with
          | true =>
            go_wp2_with fail
            go_ret
            exact ⟨rfl, Hb1.out⟩
          | false =>
            cases h92 : ((s[k].toNat : Int) == 92) with
            | true =>
              go_wp2_with fail
              go_ret
              exact ⟨rfl, Hb1.out⟩
            | false =>
              have HC := Lib.hid (clean_snoc (q := 39) hlt Hq.out (clean_of rfl (by simp at h127; omega) hqq h92))
              go_wp2_with fail
              go_round
              case rel => exact ⟨k + 1, by omega, by go_num, HC⟩
              case measure => simp [intOf]; omega
    · have hke : k = s.size := by omega
      subst hke
      have hcl := Hq.out
      rw [List.take_of_length_le (by simp)] at hcl
      have hq1 : split (((⟨#[39]⟩ : ByteArray) ++ s ++ ⟨#[39]⟩).data.toList) = .ok [s.data.toList] := by
        rw [data_add, data_add]; exact split_quote (by decide) hcl
      have hq2 : split (((⟨#[120]⟩ : ByteArray) ++ ((⟨#[39]⟩ : ByteArray) ++ s ++ ⟨#[39]⟩) ++ ⟨#[121]⟩).data.toList) = .ok [120 :: (s.data.toList ++ [121])] := by
        rw [data_add, data_add, data_add, data_add]
        have := split_quote2 (q := 39) (by decide) hcl
        simpa using this
      have HQ1 := Lib.hid hq1; clear hq1
      have HQ2 := Lib.hid hq2; clear hq2 hcl
      have hcv : ∀ (w : World) (n : Nat), n = w.heap.size → (convert 33 9 (.slice (some ⟨n, 0, none⟩) 1 1)).run Try.prog (w.alloc (.cells #[.int .u8 39] 5)) = .ok (.string ⟨#[39]⟩) (w.alloc (.cells #[.int .u8 39] 5)) := fun w n hn => conv1 w n hn 39
      clear Hq
      go_wp2_with fail
      have hbA : Below w1.heap.size w1 ((w1.alloc (.cells #[.int .u8 39] 5)).alloc (.cells #[.int .u8 39] 5)) := ((Below.refl _ _).alloc (Nat.le_refl _) _).alloc (by simp) _
      refine (split_any _ _ (by simp only [ByteArray.size_append]; show 1 + s.size + 1 < _; omega) _ HQ1.out).mono ?_
      rintro e w2 ⟨hb2, v, rfl, hv⟩
      obtain ⟨oa, cap, rfl⟩ := ownsRow_form hv
      have Hr2 := Lib.hid (StrRow.of_own hv)
      have Hb2 := Lib.hid (Below.more (Below.more Hb1.out hbA) hb2); clear hb2 Hb1 hv hbA hcv
      go_wp2_with fail
      refine (split_any _ _ (by simp only [ByteArray.size_append]; show 1 + (1 + s.size + 1) + 1 < _; omega) _ HQ2.out).mono ?_
      rintro e w3 ⟨hb3, v, rfl, hv⟩
      obtain ⟨ob, cap2, rfl⟩ := ownsRow_form hv
      obtain ⟨b1, o1, rfl, hc1⟩ := (Hr2.out.below hb3) 0 (by simp)
      obtain ⟨b2, o2, rfl, hc2⟩ := (StrRow.of_own hv) 0 (by simp)
      have Hb3 := Lib.hid (Below.more Hb2.out hb3); clear hb3 Hb2 hv Hr2
      have hq3 : ((⟨(120 :: (s.data.toList ++ [121])).toArray⟩ : ByteArray)) = (⟨#[120]⟩ : ByteArray) ++ s ++ ⟨#[121]⟩ := by
        apply bytes_ext
        rw [data_add, data_add]
        rfl
      simp only [List.getElem_cons_zero, Nat.add_zero] at hc1 hc2
      rw [hq3] at hc2
      have hs1 : (⟨s.data.toList.toArray⟩ : ByteArray) = s := rfl
      rw [hs1] at hc1
      clear hq3 hs1
      go_wp2_with fail
      go_ret
      exact ⟨rfl, Hb3.out⟩

set_option maxHeartbeats 4000000 in
set_option maxRecDepth 100000 in
theorem quote_double (s : ByteArray) (w : World) (hs : s.size ≤ 1048576) :
    Calls Try.prog 7 #[.string s, .bool true] w fun e w' => e = .returned (.bool true) ∧ Below w.heap.size w w' := by
  go_enter Try.func7, Try.ntmps7
  go_wp2_with (go_at_call 8; refine (shown_any _).mono ?_)
  rintro e w1 ⟨rfl, hb1⟩
  have Hb1 := Lib.hid hb1; clear hb1
  go_wp2_with fail
  go_loop [6] (fun i => ∃ k : Nat, k ≤ s.size ∧ i = .int .i64 k ∧ Hid (∀ c ∈ s.data.toList.take k, isBad c = false ∧ c ≠ 34 ∧ c ≠ 92)) (fun i => s.size - (intOf i).toNat)
  case atStart => exact ⟨0, by omega, rfl, by simp [Hid]⟩
  case round =>
    obtain ⟨k, hk, rfl, Hq⟩ := hrel
    by_cases hlt : k < s.size
    · by_cases h32 : (s[k].toNat : Int) < 32
      · cases h9 : ((s[k].toNat : Int) != 9) with
        | true =>
          go_wp2_with fail
          go_ret
          exact ⟨rfl, Hb1.out⟩
        | false =>
          have e9 : (s[k].toNat : Int) = 9 := by simpa using h9
          have h127 : ((s[k].toNat : Int) == 127) = false := by rw [beq_eq_false_iff_ne]; omega
          have hqq : ((s[k].toNat : Int) == 34) = false := by rw [beq_eq_false_iff_ne]; omega
          have h92 : ((s[k].toNat : Int) == 92) = false := by rw [beq_eq_false_iff_ne]; omega
          have HC := Lib.hid (clean_snoc (q := 34) hlt Hq.out (clean_of rfl (by omega) hqq h92))
          clear e9
          go_wp2_with fail
          go_round
          case rel => exact ⟨k + 1, by omega, by go_num, HC⟩
          case measure => simp [intOf]; omega
      · cases h127 : ((s[k].toNat : Int) == 127) with
        | true =>
          go_wp2_with fail
          go_ret
          exact ⟨rfl, Hb1.out⟩
        | false =>
          cases hqq : ((s[k].toNat : Int) == 34) with
          | true =>
            go_wp2_with fail
            go_ret
            exact ⟨rfl, Hb1.out⟩
          | false =>
            cases h92 : ((s[k].toNat : Int) == 92) with
            | true =>
              go_wp2_with fail
              go_ret
              exact ⟨rfl, Hb1.out⟩
            | false =>
              have HC := Lib.hid (clean_snoc (q := 34) hlt Hq.out (clean_of rfl (by simp at h127; omega) hqq h92))
              go_wp2_with fail
              go_round
              case rel => exact ⟨k + 1, by omega, by go_num, HC⟩
              case measure => simp [intOf]; omega
    · have hke : k = s.size := by omega
      subst hke
      have hcl := Hq.out
      rw [List.take_of_length_le (by simp)] at hcl
      have hq1 : split (((⟨#[34]⟩ : ByteArray) ++ s ++ ⟨#[34]⟩).data.toList) = .ok [s.data.toList] := by
        rw [data_add, data_add]; exact split_quote (by decide) hcl
      have hq2 : split (((⟨#[120]⟩ : ByteArray) ++ ((⟨#[34]⟩ : ByteArray) ++ s ++ ⟨#[34]⟩) ++ ⟨#[121]⟩).data.toList) = .ok [120 :: (s.data.toList ++ [121])] := by
        rw [data_add, data_add, data_add, data_add]
        have := split_quote2 (q := 34) (by decide) hcl
        simpa using this
      have HQ1 := Lib.hid hq1; clear hq1
      have HQ2 := Lib.hid hq2; clear hq2 hcl
      have hcv : ∀ (w : World) (n : Nat), n = w.heap.size → (convert 33 9 (.slice (some ⟨n, 0, none⟩) 1 1)).run Try.prog (w.alloc (.cells #[.int .u8 34] 5)) = .ok (.string ⟨#[34]⟩) (w.alloc (.cells #[.int .u8 34] 5)) := fun w n hn => conv1 w n hn 34
      clear Hq
      go_wp2_with fail
      have hbA : Below w1.heap.size w1 ((w1.alloc (.cells #[.int .u8 34] 5)).alloc (.cells #[.int .u8 34] 5)) := ((Below.refl _ _).alloc (Nat.le_refl _) _).alloc (by simp) _
      refine (split_any _ _ (by simp only [ByteArray.size_append]; show 1 + s.size + 1 < _; omega) _ HQ1.out).mono ?_
      rintro e w2 ⟨hb2, v, rfl, hv⟩
      obtain ⟨oa, cap, rfl⟩ := ownsRow_form hv
      have Hr2 := Lib.hid (StrRow.of_own hv)
      have Hb2 := Lib.hid (Below.more (Below.more Hb1.out hbA) hb2); clear hb2 Hb1 hv hbA hcv
      go_wp2_with fail
      refine (split_any _ _ (by simp only [ByteArray.size_append]; show 1 + (1 + s.size + 1) + 1 < _; omega) _ HQ2.out).mono ?_
      rintro e w3 ⟨hb3, v, rfl, hv⟩
      obtain ⟨ob, cap2, rfl⟩ := ownsRow_form hv
      obtain ⟨b1, o1, rfl, hc1⟩ := (Hr2.out.below hb3) 0 (by simp)
      obtain ⟨b2, o2, rfl, hc2⟩ := (StrRow.of_own hv) 0 (by simp)
      have Hb3 := Lib.hid (Below.more Hb2.out hb3); clear hb3 Hb2 hv Hr2
      have hq3 : ((⟨(120 :: (s.data.toList ++ [121])).toArray⟩ : ByteArray)) = (⟨#[120]⟩ : ByteArray) ++ s ++ ⟨#[121]⟩ := by
        apply bytes_ext
        rw [data_add, data_add]
        rfl
      simp only [List.getElem_cons_zero, Nat.add_zero] at hc1 hc2
      rw [hq3] at hc2
      have hs1 : (⟨s.data.toList.toArray⟩ : ByteArray) = s := rfl
      rw [hs1] at hc1
      clear hq3 hs1
      go_wp2_with fail
      go_ret
      exact ⟨rfl, Hb3.out⟩
end Go.Proofs.Ytlcimhchkbaieaa
