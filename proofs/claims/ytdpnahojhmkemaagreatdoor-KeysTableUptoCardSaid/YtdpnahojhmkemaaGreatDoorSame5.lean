/-
  The reference's Same.
-/
import Derived.Test.YtdpnahojhmkemaaGreatDoorCharsB
import Derived.Deep.LoopGhost
namespace Go.Proofs.YtdpnahojhmkemaaGreatDoor
open Go Go.RowKit
set_option linter.unusedVariables false

def sameB (l m : List Str) : Bool := l == m

theorem str_beq (a b : Str) : ((⟨a.toArray⟩ : ByteArray).toList == (⟨b.toArray⟩ : ByteArray).toList) = (a == b) := by
  rw [ByteArray.toList_eq, ByteArray.toList_eq]

set_option maxHeartbeats 1000000 in
theorem same_any (oa ob : Option Addr) (ca cb : Nat) (l m : List Str) (w : World) (hl : StrRow w oa l) (hm : StrRow w ob m) (hll : l.length ≤ maxLen) (hml : m.length ≤ maxLen) :
    Calls Tryz.prog 26 #[.slice oa l.length ca, .slice ob m.length cb] w fun e w' => e = .returned (.bool (sameB l m)) ∧ ∃ n, w' = w.drewN n := by
  unfold maxLen at hll hml
  by_cases hlen : l.length = m.length
  · have hne : ((l.length : Int) != (m.length : Int)) = false := by simp [hlen]
    have Hlen := Lib.hid hlen; clear hlen
    go_enter Tryz.func26, Tryz.ntmps26
    have HL := Lib.hid hl; clear hl
    have HM := Lib.hid hm; clear hm
    go_wp2_with fail
    go_loopg [13] (l.length + 1) (fun f i wr => ∃ k : Nat, k ≤ l.length ∧ i = .int .i64 k ∧ l.length - k < f ∧ Hid (l.take k = m.take k) ∧ ∃ n, wr = w.drewN n)
    case atStart => exact ⟨0, by omega, rfl, by omega, rfl, 0, rfl⟩
    case round =>
      obtain ⟨k, hk, rfl, hfu, Hq, n, rfl⟩ := hrel
      by_cases hlt : k < l.length
      · have hlt2 : k < m.length := by have := Hlen.out; omega
        obtain ⟨b1, o1, rfl, hc1⟩ := HL.out k hlt
        obtain ⟨b2, o2, rfl, hc2⟩ := HM.out k hlt2
        cases hb : (l[k] == m[k]) with
        | true =>
          have HT := Lib.hid (show l.take (k + 1) = m.take (k + 1) by
            rw [List.take_succ_eq_append_getElem hlt, List.take_succ_eq_append_getElem hlt2, Hq.out, eq_of_beq hb])
          go_wp2_with fail
          go_quiet (fail)
          go_wp2
          go_roundg (l.length - k)
          case measure => omega
          case rel => exact ⟨k + 1, by omega, by go_num, by omega, HT, (by first | exact dn0 _ | exact dn_trans (dn _ _) | exact dn _ _)⟩
        | false =>
          have HR := Lib.hid (show sameB l m = false by
            unfold sameB; rw [beq_eq_false_iff_ne]; intro e; subst e; simp at hb)
          go_wp2_with fail
          go_quiet (fail)
          go_wp2
          go_ret
          exact ⟨ret_bool HR.out.symm, (by first | exact dn0 _ | exact dn_trans (dn _ _) | exact dn _ _)⟩
      · have HR := Lib.hid (show sameB l m = true by
          have h1 := Hq.out
          rw [List.take_of_length_le (by omega), List.take_of_length_le (by have := Hlen.out; omega)] at h1
          unfold sameB; rw [h1]; simp)
        go_wp2
        go_ret
        exact ⟨ret_bool HR.out.symm, dn _ _⟩
  · have hne : ((l.length : Int) != (m.length : Int)) = true := by simp; omega
    have HR := Lib.hid (show sameB l m = false by
      unfold sameB; rw [beq_eq_false_iff_ne]; intro e; exact hlen (by rw [e]))
    go_enter Tryz.func26, Tryz.ntmps26
    go_wp2_with fail
    go_ret
    exact ⟨ret_bool HR.out.symm, dn0 _⟩

theorem same_b (oa ob : Option Addr) (ca cb : Nat) (l m : List Str) (w : World) (hl : StrRow w oa l) (hm : StrRow w ob m) (hll : l.length ≤ maxLen) (hml : m.length ≤ maxLen) (b : Bool) (hb : sameB l m = b) :
    Calls Tryz.prog 26 #[.slice oa l.length ca, .slice ob m.length cb] w fun e w' => e = .returned (.bool b) ∧ Below w.heap.size w w' := by
  refine (same_any oa ob ca cb l m w hl hm hll hml).mono ?_
  rintro e w' ⟨rfl, hw⟩
  exact ⟨by rw [hb], below_dn hw⟩

theorem sameB_self (l : List Str) : sameB l l = true := by unfold sameB; simp
end Go.Proofs.YtdpnahojhmkemaaGreatDoor
