/-
  matinslaw5: WordsTurn's walk.
-/
import Derived.Test.YtlcimhchkbaieaaLaw5A
import Derived.Test.YtlcimhchkbaieaaWordsL
namespace Go.Proofs.Ytlcimhchkbaieaa
open Go Go.RowKit
set_option linter.unusedVariables false

def zeros (l : List Str) (k : Nat) : Bool := decide (32 < l.length) || (l.take k).any (fun x => x.contains 0)
def zeroIn (z : Bool) (x : Str) (j : Nat) : Bool := z || (x.take j).contains 0
theorem zeroIn_snoc (z : Bool) (x : Str) (j : Nat) (h : j < x.length) : zeroIn z x (j + 1) = (zeroIn z x j || (x[j] == 0)) := by
  unfold zeroIn
  rw [List.take_succ_eq_append_getElem h]
  simp only [List.contains_append, Bool.or_assoc]
  congr 2
  rw [Bool.eq_iff_iff]
  simp
  exact eq_comm
theorem zeros_snoc (l : List Str) (k : Nat) (h : k < l.length) : zeros l (k + 1) = zeroIn (zeros l k) l[k] l[k].length := by
  unfold zeros zeroIn
  rw [List.take_succ_eq_append_getElem h, List.any_append, List.take_length]
  simp [Bool.or_assoc]

set_option maxHeartbeats 4000000 in
set_option maxRecDepth 100000 in
theorem turn_walk (oa : Option Addr) (cap : Nat) (l : List Str) (w : World) (h : StrRow w oa l) (hm : l.length ≤ 1048576) (hl : ∀ x ∈ l, x.length ≤ 1048576) :
    Calls Try.prog 4 #[.slice oa l.length cap] w fun e w' => e = .returned (.bool true) ∧ Below w.heap.size w w' := by
  have Hm : l.length ≤ maxLen := by unfold maxLen; omega
  have hjl := join_len hl
  have Hl := Lib.hid hl; clear hl
  have Hjl := Lib.hid hjl; clear hjl
  go_enter Try.func4, Try.ntmps4
  go_wp2_with fail
  refine (shown_any _).mono ?_
  rintro e w1 ⟨rfl, hb1⟩
  have Hr1 := Lib.hid (h.below hb1); clear h
  have Hb1 := Lib.hid hb1; clear hb1
  go_wp2_with fail
  refine (join_any _ _ l _ Hr1.out Hm (by intro x hx; have := Hl.out x hx; omega)).mono ?_
  rintro e w2 ⟨rfl, hb2⟩
  have Hr2 := Lib.hid (Hr1.out.below hb2); clear Hr1
  have Hb2 := Lib.hid (Below.more Hb1.out hb2); clear hb2 Hb1
  have hz0 : zeros l 0 = decide (32 < l.length) := by simp [zeros]
  have HZ0 := Lib.hid hz0; clear hz0
  go_wp2_with fail
  go_loopg [4, 6, 7, 19] (l.length + 1) (fun f z _ _ i wr => Hid (StrRow wr oa l) ∧ Hid (Below w.heap.size w wr) ∧ ∃ k : Nat, k ≤ l.length ∧ i = .int .i64 k ∧ l.length - k < f ∧ ∃ zb : Bool, z = .bool zb ∧ Hid (zb = zeros l k))
  case atStart =>
    refine ⟨Hr2, Hb2, 0, by omega, rfl, by omega, decide (32 < l.length), ?_, HZ0.out.symm⟩
    show Value.bool _ = _
    congr 1
    rw [decide_eq_decide]
    omega
  case round =>
    clear Hr2 Hb2
    obtain ⟨Hr2, Hb2, k, hk, rfl, hfu, zb, rfl, Hz⟩ := hrel
    by_cases hlt : k < l.length
    · obtain ⟨b, o, rfl, hc⟩ := Hr2.out k hlt
      have hxl := Hl.out l[k] (List.getElem_mem _)
      have HZS := Lib.hid (zeros_snoc l k hlt)
      have hsz : (⟨l[k].toArray⟩ : ByteArray).size = l[k].length := by simp [ByteArray.size]
      go_wp2_with fail
      go_loopg [4, 7] (l[k].length + 1) (fun f z i wr2 => Hid (StrRow wr2 (some ⟨b, o, none⟩) l) ∧ Hid (Below w.heap.size w wr2) ∧ ∃ j : Nat, j ≤ l[k].length ∧ i = .int .i64 j ∧ l[k].length - j < f ∧ ∃ zc : Bool, z = .bool zc ∧ Hid (zc = zeroIn zb l[k] j))
      case atStart => exact ⟨Hr2, Hb2, 0, by omega, rfl, by omega, zb, rfl, by simp [zeroIn, Hid]⟩
      case round =>
        clear Hr2 Hb2
        obtain ⟨Hr2, Hb2, j, hj, rfl, hfj, zc, rfl, Hzc⟩ := hrel
        by_cases hjl : j < l[k].length
        · have HS := Lib.hid (zeroIn_snoc zb l[k] j hjl)
          cases zc with
          | true =>
            have HT := Lib.hid (show true = zeroIn zb l[k] (j + 1) by rw [HS.out, ← Hzc.out]; rfl)
            go_wp2_with fail
            go_roundg (l[k].length - j)
            case measure => omega
            case rel => exact ⟨Hr2, Hb2, j + 1, by omega, by go_num, by omega, true, rfl, HT⟩
          | false =>
            have HT := Lib.hid (show (((l[k][j]).toNat : Int) == 0) = zeroIn zb l[k] (j + 1) by
              rw [HS.out, ← Hzc.out, beq_u8]; rfl)
            go_wp2_with fail
            go_roundg (l[k].length - j)
            case measure => omega
            case rel => exact ⟨Hr2, Hb2, j + 1, by omega, by go_num, by omega, _, rfl, HT⟩
        · have : j = l[k].length := by omega
          subst this
          have HT := Lib.hid (show zc = zeros l (k + 1) by rw [HZS.out, ← Hz.out]; exact Hzc.out)
          go_wp2_with fail
          go_roundg (l.length - k)
          case measure => omega
          case rel => exact ⟨Hr2, Hb2, k + 1, by omega, by go_num, by omega, zc, rfl, HT⟩
    · have : k = l.length := by omega
      subst this
      cases zb with
      | true =>
        have hj0 : join l = [] := by
          have h1 := Hz.out
          unfold zeros at h1
          rw [List.take_length] at h1
          unfold join
          split
          · rfl
          · rename_i h32
            rw [decide_eq_false h32, Bool.false_or] at h1
            rw [← h1]; rfl
        rw [hj0]
        have Hj0 := Lib.hid hj0; clear hj0
        go_wp2_with fail
        go_ret
        exact ⟨rfl, Hb2.out⟩
      | false =>
        have hsj : split (join l) = .ok l := by
          have h1 := Hz.out
          unfold zeros at h1
          rw [List.take_length] at h1
          have h2 := h1.symm
          rw [Bool.or_eq_false_iff] at h2
          exact split_join l h2.2 (by have := of_decide_eq_false h2.1; omega)
        have Hsj := Lib.hid hsj; clear hsj
        go_wp2_with fail
        refine (split_any ⟨(join l).toArray⟩ _ (by have := Hjl.out; show (join l).length < _; omega) _ Hsj.out).mono ?_
        rintro e w4 ⟨hb4, v, rfl, hv⟩
        obtain ⟨ob, cap2, rfl⟩ := ownsRow_form hv
        have Hr4 := Lib.hid (StrRow.of_own hv)
        have Hr4' := Lib.hid (Hr2.out.below hb4)
        have Hb4 := Lib.hid (Below.more Hb2.out hb4); clear hb4 hv
        go_wp2_with fail
        refine (same_b _ _ _ _ l l _ Hr4'.out Hr4.out Hm Hm _ (sameB_self l)).mono ?_
        rintro e w5 ⟨rfl, hb5⟩
        have Hb5 := Lib.hid (Below.more Hb4.out hb5); clear hb5 Hb4
        go_wp2_with fail
        go_ret
        exact ⟨rfl, Hb5.out⟩
end Go.Proofs.Ytlcimhchkbaieaa
