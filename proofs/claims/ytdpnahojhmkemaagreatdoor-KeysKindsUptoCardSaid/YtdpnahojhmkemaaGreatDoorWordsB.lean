/-
  Package words: the contracts of its functions, on.
-/
import Derived.Test.YtdpnahojhmkemaaGreatDoorWords
namespace Go.Proofs.YtdpnahojhmkemaaGreatDoor
open Go Go.RowKit
set_option linter.unusedVariables false
set_option maxRecDepth 100000

set_option maxHeartbeats 1000000 in
theorem one_esc_bad (R B : Nat) (s : ByteArray) (k : Nat) (bs : List UInt8) (w : World) (h : Rdr R B s k bs w) (hk : k < s.size) (hs : s.size < 549755813888) (hb : isBad s[k] = false) (h92 : ((s[k].toNat : Int) == 92) = true)
    (he : escOf (s.data.toList.drop (k + 1)) = none) :
    Calls Tryz.prog 145 #[.pointer (some ⟨R, 0, none⟩)] w fun e w' => e = .returned (.int .i64 13) ∧ ∃ n, w' = w.drewN n := by
  obtain ⟨c0, c1, f1⟩ := h.rd
  have HB := Lib.hid hb; clear hb
  have hx : (s.extract k s.size).data.toList.drop 1 = s.data.toList.drop (k + 1) := by rw [Lib.extract_to_end s k, List.drop_drop]
  have hz : 1 ≤ (s.extract k s.size).size := by simp; omega
  have hz' : (s.extract k s.size).size ≤ 9223372036854775807 := by simp; omega
  have hk' : (k : Int) ≤ (s.size : Int) := by omega
  have HX := Lib.hid hx; clear hx
  have HP := Lib.hid (show escP (s.data.toList.drop (k + 1)) = (0, 0) by simp [escP, he]); clear he
  go_enter Tryz.func145, Tryz.ntmps145
  go_wp2
  go_quiet (fail)
  go_wp2_with (go_at_call 166; refine (bad_any _ _).mono ?_; rintro e w' ⟨rfl, rfl⟩; rw [HB.out])
  have hq := h.drewN nq
  have HW := Lib.hid (dn w nq)
  generalize w.drewN nq = w2 at hq HW ⊢
  clear c0 c1 f1 h
  obtain ⟨c0, c1, f1⟩ := hq.rd
  go_quiet ((go_at_call 167; exact Calls.quiet_of (escape_at _ _ hz hz' _ HX.out)))
  rw [HP.out]
  go_wp2
  go_ret
  exact ⟨rfl, dn_trans HW.out⟩

set_option maxHeartbeats 1000000 in
theorem one_esc_ok (R B : Nat) (s : ByteArray) (k : Nat) (bs : List UInt8) (w : World) (h : Rdr R B s k bs w) (hk : k < s.size) (hs : s.size < 549755813888) (hbs : bs.length ≤ k) (hb : isBad s[k] = false) (h92 : ((s[k].toNat : Int) == 92) = true)
    (d : UInt8) (n : Nat) (he : escOf (s.data.toList.drop (k + 1)) = some (d, n)) (hn : k + (n + 1) ≤ s.size) :
    Calls Tryz.prog 145 #[.pointer (some ⟨R, 0, none⟩)] w fun e w' => e = .returned (.int .i64 0) ∧ Rdr R B s (k + (n + 1)) (bs ++ [d]) w' ∧ FrB R B 5 w w' := by
  obtain ⟨c0, c1, f1⟩ := h.rd
  have HB := Lib.hid hb; clear hb
  have hx : (s.extract k s.size).data.toList.drop 1 = s.data.toList.drop (k + 1) := by rw [Lib.extract_to_end s k, List.drop_drop]
  have hz : 1 ≤ (s.extract k s.size).size := by simp; omega
  have hz' : (s.extract k s.size).size ≤ 9223372036854775807 := by simp; omega
  have hk' : (k : Int) ≤ (s.size : Int) := by omega
  have HX := Lib.hid hx; clear hx
  have HP := Lib.hid (show escP (s.data.toList.drop (k + 1)) = (d, n + 1) by simp [escP, he]); clear he
  have hn0 : (((n + 1 : Nat) : Int) == 0) = false := by rw [beq_eq_false_iff_ne]; omega
  go_enter Tryz.func145, Tryz.ntmps145
  go_wp2
  go_quiet (fail)
  go_wp2_with (go_at_call 166; refine (bad_any _ _).mono ?_; rintro e w' ⟨rfl, rfl⟩; rw [HB.out])
  have hq := h.drewN nq
  have HW := Lib.hid (dn w nq)
  generalize w.drewN nq = w2 at hq HW ⊢
  clear c0 c1 f1 h
  obtain ⟨c0, c1, f1⟩ := hq.rd
  go_quiet ((go_at_call 167; exact Calls.quiet_of (escape_at _ _ hz hz' _ HX.out)))
  rw [HP.out]
  go_wp2_with ((go_at_call 168; refine (Rdr.write (by exact hq.drewN _) d (by omega)).mono ?_))
  rintro e w1 ⟨rfl, hr1, hf1⟩
  obtain ⟨d0, d1, g1⟩ := hr1.rd
  go_wp2
  go_ret
  refine ⟨rfl, hr1.moved (k + (n + 1)), (FrB.trans (FrB.of_dn (dn_trans HW.out)) hf1).setCell _ _⟩

/-- one: what is wrong. -/
theorem one_err (R B : Nat) (s : ByteArray) (k : Nat) (bs : List UInt8) (w : World) (h : Rdr R B s k bs w) (hk : k < s.size) (hs : s.size < 549755813888) (c : Nat) (ho : oneS (s.data.toList.drop k) = .error c) :
    Calls Tryz.prog 145 #[.pointer (some ⟨R, 0, none⟩)] w fun e w' => e = .returned (.int .i64 c) ∧ ∃ n, w' = w.drewN n := by
  rw [drop_cons s k hk] at ho
  simp only [oneS] at ho
  by_cases hb : isBad s[k] = true
  · rw [if_pos hb] at ho
    cases ho
    exact one_bad R B s k bs w h hk hs hb
  · rw [if_neg hb] at ho
    by_cases h92 : s[k] = 92
    · rw [if_pos h92] at ho
      cases he : escOf (s.data.toList.drop (k + 1)) with
      | none =>
        rw [he] at ho
        cases ho
        exact one_esc_bad R B s k bs w h hk hs (by simpa using hb) (by rw [h92]; rfl) he
      | some x => rw [he] at ho; cases ho
    · rw [if_neg h92] at ho; cases ho

theorem ne92 {c : UInt8} (h : ¬ c = 92) : ((c.toNat : Int) == 92) = false := by
  rw [beq_eq_false_iff_ne]; intro e
  exact h (UInt8.toNat_inj.1 (by have : c.toNat = 92 := by omega
                                 rw [this]; rfl))

/-- one: the byte that it takes. -/
theorem one_ok (R B : Nat) (s : ByteArray) (k : Nat) (bs : List UInt8) (w : World) (h : Rdr R B s k bs w) (hk : k < s.size) (hs : s.size < 549755813888) (hbs : bs.length ≤ k) (d : UInt8) (n : Nat) (ho : oneS (s.data.toList.drop k) = .ok (d, n)) :
    Calls Tryz.prog 145 #[.pointer (some ⟨R, 0, none⟩)] w fun e w' => e = .returned (.int .i64 0) ∧ Rdr R B s (k + n) (bs ++ [d]) w' ∧ FrB R B 5 w w' := by
  have hle := (one_le ho).2
  rw [List.length_drop] at hle
  have hsz : s.data.toList.length = s.size := by simp
  rw [drop_cons s k hk] at ho
  simp only [oneS] at ho
  by_cases hb : isBad s[k] = true
  · rw [if_pos hb] at ho; cases ho
  · rw [if_neg hb] at ho
    by_cases h92 : s[k] = 92
    · rw [if_pos h92] at ho
      cases he : escOf (s.data.toList.drop (k + 1)) with
      | none => rw [he] at ho; cases ho
      | some x =>
        obtain ⟨d', n'⟩ := x
        rw [he] at ho
        cases ho
        exact one_esc_ok R B s k bs w h hk hs hbs (by simpa using hb) (by rw [h92]; rfl) _ _ he (by omega)
    · rw [if_neg h92] at ho
      cases ho
      exact one_plain R B s k bs w h hk hs hbs (by simpa using hb) (ne92 h92)
end Go.Proofs.YtdpnahojhmkemaaGreatDoor
