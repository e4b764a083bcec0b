/-
  matinslaw5: WordsAll's walk.
-/
import Derived.Test.YtlcimhchkbaieaaLaw5A
import Derived.Test.YtlcimhchkbaieaaWordsL
import Derived.Test.YtlcimhchkbaieaaRef5C
import Derived.Test.YtlcimhchkbaieaaRef5E
namespace Go.Proofs.Ytlcimhchkbaieaa
open Go Go.RowKit
set_option linter.unusedVariables false

theorem refJoin_b (oa : Option Addr) (cap : Nat) (l : List Str) (w : World) (h : StrRow w oa l) (hm : l.length ≤ maxLen) (hl : ∀ x ∈ l, x.length < 137438953472) :
    Calls Try.prog 13 #[.slice oa l.length cap] w fun e w' => e = .returned (.string ⟨(join l).toArray⟩) ∧ Below w.heap.size w w' :=
  (refJoin_any oa cap l w h hm hl).mono fun e w' ⟨h1, h2⟩ => ⟨h1, below_dn h2⟩

set_option maxHeartbeats 4000000 in
set_option maxRecDepth 100000 in
theorem all_walk (s : ByteArray) (oa : Option Addr) (cap : Nat) (l : List Str) (w : World) (hs : s.size ≤ 1048576) (h : StrRow w oa l) (hm : l.length ≤ 1048576) (hl : ∀ x ∈ l, x.length ≤ 1048576) :
    Calls Try.prog 3 #[.string s, .slice oa l.length cap] w fun e w' => e = .returned (.bool true) ∧ Below w.heap.size w w' := by
  have Hm : l.length ≤ maxLen := by unfold maxLen; omega
  have Hl := Lib.hid hl; clear hl
  go_enter Try.func3, Try.ntmps3
  go_wp2_with (go_at_call 8; refine (shown_any _).mono ?_)
  rintro e w1 ⟨rfl, hb1⟩
  have Hr1 := Lib.hid (h.below hb1); clear h
  have Hb1 := Lib.hid hb1; clear hb1
  have hrs : refS (s.size + 1) [] none 0 s.data.toList = split s.data.toList := ref_split s.data.toList
  cases hsp : split s.data.toList with
  | error c =>
    rw [hsp] at hrs
    have Hrs := Lib.hid hrs; clear hrs
    have Hsp := Lib.hid hsp; clear hsp
    go_wp2_with (go_at_call 9; refine (split_any _ _ (by omega) _ Hsp.out).mono ?_)
    rintro e w2 ⟨hb2, rfl⟩
    have Hr2 := Lib.hid (Hr1.out.below hb2); clear Hr1
    have Hb2 := Lib.hid (Below.more Hb1.out hb2); clear hb2 Hb1
    go_wp2_with (go_at_call 10; refine (refSplit_any _ _ (by omega) _ Hrs.out).mono ?_)
    rintro e w3 ⟨hb3, rfl⟩
    have Hr3 := Lib.hid (Hr2.out.below hb3); clear Hr2
    have Hb3 := Lib.hid (Below.more Hb2.out hb3); clear hb3 Hb2
    go_wp2_with (go_at_call 11; refine (same_b none none 0 0 [] [] _ (StrRow.nil _ _) (StrRow.nil _ _) (Nat.zero_le _) (Nat.zero_le _) _ (sameB_self [])).mono ?_)
    rintro e w5 ⟨rfl, hb5⟩
    have Hr5 := Lib.hid (Hr3.out.below hb5); clear Hr3
    have Hb5 := Lib.hid (Below.more Hb3.out hb5); clear hb5 Hb3
    go_wp2_with (go_at_call 12; refine (join_any _ _ l _ Hr5.out Hm (by intro x hx; have := Hl.out x hx; omega)).mono ?_)
    rintro e w6 ⟨rfl, hb6⟩
    have Hr6 := Lib.hid (Hr5.out.below hb6); clear Hr5
    have Hb6 := Lib.hid (Below.more Hb5.out hb6); clear hb6 Hb5
    go_wp2_with (go_at_call 13; refine (refJoin_b _ _ l _ Hr6.out Hm (by intro x hx; have := Hl.out x hx; omega)).mono ?_)
    rintro e w7 ⟨rfl, hb7⟩
    have Hb7 := Lib.hid (Below.more Hb6.out hb7); clear hb7 Hb6
    go_wp2_with fail
    go_ret
    exact ⟨ret_bool (by simp), Hb7.out⟩
  | ok r =>
    rw [hsp] at hrs
    obtain ⟨hj, hl32⟩ := split_back hsp
    have Hll : r.length ≤ maxLen := by unfold maxLen; omega
    clear hj
    have Hrs := Lib.hid hrs; clear hrs
    have Hsp := Lib.hid hsp; clear hsp
    go_wp2_with (go_at_call 9; refine (split_any _ _ (by omega) _ Hsp.out).mono ?_)
    rintro e w2 ⟨hb2, v, rfl, hv⟩
    obtain ⟨oa2, cap2, rfl⟩ := ownsRow_form hv
    have Hx2 := Lib.hid (StrRow.of_own hv)
    have Hr2 := Lib.hid (Hr1.out.below hb2); clear Hr1
    have Hb2 := Lib.hid (Below.more Hb1.out hb2); clear hb2 Hb1 hv
    go_wp2_with (go_at_call 10; refine (refSplit_any _ _ (by omega) _ Hrs.out).mono ?_)
    rintro e w3 ⟨hb3, v, rfl, hv⟩
    obtain ⟨oa3, cap3, rfl⟩ := ownsRow_form hv
    have Hx3 := Lib.hid (StrRow.of_own hv)
    have Hx2' := Lib.hid (Hx2.out.below hb3); clear Hx2
    have Hr3 := Lib.hid (Hr2.out.below hb3); clear Hr2
    have Hb3 := Lib.hid (Below.more Hb2.out hb3); clear hb3 Hb2 hv
    go_wp2_with (go_at_call 11; refine (same_b _ _ _ _ r r _ Hx2'.out Hx3.out Hll Hll _ (sameB_self r)).mono ?_)
    rintro e w5 ⟨rfl, hb5⟩
    have Hr5 := Lib.hid (Hr3.out.below hb5); clear Hr3
    have Hb5 := Lib.hid (Below.more Hb3.out hb5); clear hb5 Hb3
    go_wp2_with (go_at_call 12; refine (join_any _ _ l _ Hr5.out Hm (by intro x hx; have := Hl.out x hx; omega)).mono ?_)
    rintro e w6 ⟨rfl, hb6⟩
    have Hr6 := Lib.hid (Hr5.out.below hb6); clear Hr5
    have Hb6 := Lib.hid (Below.more Hb5.out hb6); clear hb6 Hb5
    go_wp2_with (go_at_call 13; refine (refJoin_b _ _ l _ Hr6.out Hm (by intro x hx; have := Hl.out x hx; omega)).mono ?_)
    rintro e w7 ⟨rfl, hb7⟩
    have Hb7 := Lib.hid (Below.more Hb6.out hb7); clear hb7 Hb6
    go_wp2_with fail
    go_ret
    exact ⟨ret_bool (by simp), Hb7.out⟩
end Go.Proofs.Ytlcimhchkbaieaa
