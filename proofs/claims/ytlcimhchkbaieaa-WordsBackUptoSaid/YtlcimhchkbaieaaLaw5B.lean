/-
  matinslaw5: the laws' walks.
-/
import Derived.Test.YtlcimhchkbaieaaLaw5A
import Derived.Test.YtlcimhchkbaieaaWordsL
namespace Go.Proofs.Ytlcimhchkbaieaa
open Go Go.RowKit
set_option linter.unusedVariables false

set_option maxHeartbeats 2000000 in
set_option maxRecDepth 100000 in
theorem back_walk (s : ByteArray) (w : World) (hs : s.size ≤ 1048576) :
    Calls Try.prog 5 #[.string s] w fun e w' => e = .returned (.bool true) ∧ Below w.heap.size w w' := by
  go_enter Try.func5, Try.ntmps5
  go_wp2_with (go_at_call 8; refine (shown_any _).mono ?_)
  rintro e w1 ⟨rfl, hb1⟩
  have Hb1 := Lib.hid hb1; clear hb1
  cases hsp : split s.data.toList with
  | error c =>
    have hc := split_code hsp
    have Hsp := Lib.hid hsp; clear hsp
    go_wp2_with (go_at_call 9; refine (split_any _ _ (by omega) _ Hsp.out).mono ?_)
    rintro e w2 ⟨hb2, rfl⟩
    have Hb2 := Lib.hid (Below.more Hb1.out hb2); clear hb2 Hb1
    rcases hc with rfl | rfl | rfl
    all_goals
      go_wp2_with fail
      go_ret
      exact ⟨rfl, Hb2.out⟩
  | ok l =>
    obtain ⟨hj, hl32⟩ := split_back hsp
    have hsz := split_size hsp
    have hjl := join_len hsz
    have hsl : s.data.toList.length = s.size := by simp
    rw [hsl] at hsz hjl
    have Hsp := Lib.hid hsp; clear hsp
    have Hj := Lib.hid hj; clear hj
    have Hsz := Lib.hid hsz; clear hsz
    have Hjl := Lib.hid hjl; clear hjl
    have Hll : l.length ≤ maxLen := by unfold maxLen; omega
    go_wp2_with (go_at_call 9; refine (split_any _ _ (by omega) _ Hsp.out).mono ?_)
    rintro e w2 ⟨hb2, v, rfl, hv⟩
    obtain ⟨oa, cap, rfl⟩ := ownsRow_form hv
    have hr2 := StrRow.of_own hv
    have Hb2 := Lib.hid (Below.more Hb1.out hb2); clear hb2 Hb1 hv
    go_wp2_with (go_at_call 12; refine (join_any _ _ l _ hr2 Hll (by intro x hx; have := Hsz.out x hx; omega)).mono ?_)
    rintro e w3 ⟨rfl, hb3⟩
    have Hr3 := Lib.hid (hr2.below hb3); clear hr2
    have Hb3 := Lib.hid (Below.more Hb2.out hb3); clear hb3 Hb2
    go_wp2_with (go_at_call 9; refine (split_any ⟨(join l).toArray⟩ _ (by have := Hjl.out; show (join l).length < _; omega) _ Hj.out).mono ?_)
    rintro e w4 ⟨hb4, v, rfl, hv⟩
    obtain ⟨ob, cap2, rfl⟩ := ownsRow_form hv
    have Hr4 := Lib.hid (StrRow.of_own hv)
    have Hr4' := Lib.hid (Hr3.out.below hb4); clear Hr3
    have Hb4 := Lib.hid (Below.more Hb3.out hb4); clear hb4 Hb3 hv
    go_wp2_with (go_at_call 11; refine (same_b _ _ _ _ l l _ Hr4'.out Hr4.out Hll Hll _ (sameB_self l)).mono ?_)
    rintro e w5 ⟨rfl, hb5⟩
    have Hb5 := Lib.hid (Below.more Hb4.out hb5); clear hb5 Hb4
    go_wp2_with fail
    go_ret
    refine ⟨ret_bool ?_, Hb5.out⟩
    simp; omega
end Go.Proofs.Ytlcimhchkbaieaa
