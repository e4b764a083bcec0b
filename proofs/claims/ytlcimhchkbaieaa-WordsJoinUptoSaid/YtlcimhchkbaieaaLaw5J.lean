/-
  matinslaw5: WordsJoin's walk.
-/
import Derived.Test.YtlcimhchkbaieaaLaw5Q
namespace Go.Proofs.Ytlcimhchkbaieaa
open Go Go.RowKit
set_option linter.unusedVariables false

set_option maxHeartbeats 4000000 in
set_option maxRecDepth 100000 in
theorem joins_walk (a b : ByteArray) (w : World) (ha : a.size ≤ 1048576) (hb : b.size ≤ 1048576) :
    Calls Try.prog 6 #[.string a, .string b] w fun e w' => e = .returned (.bool true) ∧ Below w.heap.size w w' := by
  obtain ⟨i0, hi, hz0, hz1, hz2⟩ := info_parts infoString
  go_enter Try.func6, Try.ntmps6
  go_wp2_with (go_at_call 8; refine (shown_any _).mono ?_)
  rintro e w1 ⟨rfl, hb1⟩
  have Hb1 := Lib.hid hb1; clear hb1
  go_wp2_with fail
  refine (split_any a _ (by omega) _ rfl).mono ?_
  intro e w2 ho2
  cases hsa : split a.data.toList with
  | error c =>
    rw [hsa] at ho2
    obtain ⟨hb2, rfl⟩ := ho2
    have Hb2 := Lib.hid (Below.more Hb1.out hb2); clear hb2 Hb1
    have hc := split_code hsa
    have hc0 : ((c : Int) != 0) = true := by rw [bne_iff_ne]; omega
    clear hc
    have Hsa := Lib.hid hsa; clear hsa
    go_wp2_with fail
    refine (split_any b _ (by omega) _ rfl).mono ?_
    intro e w3 ho3
    cases hsb : split b.data.toList with
    | error c2 =>
      rw [hsb] at ho3
      obtain ⟨hb3, rfl⟩ := ho3
      have Hb3 := Lib.hid (Below.more Hb2.out hb3); clear hb3 Hb2
      have Hsb := Lib.hid hsb; clear hsb
      go_wp2_with fail
      go_ret
      exact ⟨rfl, Hb3.out⟩
    | ok y =>
      rw [hsb] at ho3
      obtain ⟨hb3, v, rfl, hv⟩ := ho3
      have Hb3 := Lib.hid (Below.more Hb2.out hb3); clear hb3 Hb2 hv
      have Hsb := Lib.hid hsb; clear hsb
      go_wp2_with fail
      go_ret
      exact ⟨rfl, Hb3.out⟩
  | ok x =>
    rw [hsa] at ho2
    obtain ⟨hb2, v, rfl, hv⟩ := ho2
    obtain ⟨oa, capa, rfl⟩ := ownsRow_form hv
    have Hra := Lib.hid (StrRow.of_own hv)
    have Hb2 := Lib.hid (Below.more Hb1.out hb2); clear hb2 Hb1 hv
    have hxl := (split_back hsa).2
    have Hsa := Lib.hid hsa; clear hsa
    go_wp2_with fail
    refine (split_any b _ (by omega) _ rfl).mono ?_
    intro e w3 ho3
    cases hsb : split b.data.toList with
    | error c2 =>
      rw [hsb] at ho3
      obtain ⟨hb3, rfl⟩ := ho3
      have hc := split_code hsb
      have hc0 : ((c2 : Int) != 0) = true := by rw [bne_iff_ne]; omega
      clear hc
      have Hb3 := Lib.hid (Below.more Hb2.out hb3); clear hb3 Hb2
      have Hsb := Lib.hid hsb; clear hsb
      go_wp2_with fail
      go_ret
      exact ⟨rfl, Hb3.out⟩
    | ok y =>
      rw [hsb] at ho3
      obtain ⟨hb3, v, rfl, hv⟩ := ho3
      obtain ⟨ob, capb, rfl⟩ := ownsRow_form hv
      have Hra3 := Lib.hid (Hra.out.below hb3); clear Hra
      have Hrb := Lib.hid (StrRow.of_own hv)
      have Hb3 := Lib.hid (Below.more Hb2.out hb3); clear hb3 Hb2 hv
      have hyl := (split_back hsb).2
      have hres : split (a ++ (⟨#[32]⟩ : ByteArray) ++ b).data.toList = if x.length + y.length ≤ 32 then .ok (x ++ y) else .error 2 := by
        rw [data_add, data_add]
        have := split_two Hsa.out hsb hxl
        simpa using this
      have Hsb := Lib.hid hsb; clear hsb
      have hsz : (a ++ (⟨#[32]⟩ : ByteArray) ++ b).size < 549755813888 := by
        simp only [ByteArray.size_append]; show a.size + 1 + b.size < _; omega
      by_cases hlen : x.length + y.length ≤ 32
      · rw [if_pos hlen] at hres
        obtain ⟨z, hz⟩ : ∃ z, z = x ++ y := ⟨_, rfl⟩
        rw [← hz] at hres
        have hzl : z.length = x.length + y.length := by rw [hz, List.length_append]
        have hzv : strVals z = [] ++ strVals x ++ strVals y := by rw [hz]; simp [strVals]
        have Hzl := Lib.hid hzl; clear hzl
        have Hzv := Lib.hid hzv; clear hzv hz
        have Hres := Lib.hid hres; clear hres
        go_wp2_with fail
        refine (split_any _ _ hsz _ Hres.out).mono ?_
        rintro e w4 ⟨hb4, v, rfl, hv⟩
        obtain ⟨oc, capc, rfl⟩ := ownsRow_form hv
        have Hrc := Lib.hid (StrRow.of_own hv)
        have Hra4 := Lib.hid (Hra3.out.below hb4)
        have Hrb4 := Lib.hid (Hrb.out.below hb4)
        have Hb4 := Lib.hid (Below.more Hb3.out hb4); clear hb4 Hb3 hv Hra3 Hrb
        obtain ⟨v5, w5, hr5, hown5, hg5⟩ := append_rows (P := Try.prog) (w := w4) w4.heap.size 22 22 9 i0 (.string ⟨#[]⟩) 1 16 Try.underlying22 hi hz0 hz1 hz2 rfl (by decide) (.slice none 0 0) 0 [] (World.ownsRow_nil _ _ _ _) oa x.length capa (strVals x) (by rw [strVals_length]; omega) Hra4.out.cells (strVals_one x) (by unfold maxLen; omega) (by omega) (Nat.le_refl _)
        have hb5 : Below w4.heap.size w4 w5 := (Below.refl _ _).grown hg5 (Nat.le_refl _) (by simp [Value.ownBlock])
        have Hrb5 := Lib.hid (Hrb4.out.below hb5)
        obtain ⟨v6, w6, hr6, hown6, hg6⟩ := append_rows (P := Try.prog) (w := w5) w4.heap.size 22 22 9 i0 (.string ⟨#[]⟩) 1 16 Try.underlying22 hi hz0 hz1 hz2 rfl (by decide) v5 (0 + x.length) ([] ++ strVals x) hown5 ob y.length capb (strVals y) (by rw [strVals_length]; omega) Hrb5.out.cells (strVals_one y) (by unfold maxLen; omega) (by omega) hb5.size
        have hb6 : Below w4.heap.size w4 w6 := hb5.grown hg6 hb5.size (fun k hk => (hown5.lt k hk).1)
        have e6 : w6.ownsRow w4.heap.size 9 1 v6 z.length (strVals z) := by
          rw [Hzl.out, Hzv.out]; rw [Nat.zero_add] at hown6; exact hown6
        obtain ⟨od, capd, rfl⟩ := ownsRow_form e6
        have Hrd := Lib.hid (StrRow.of_own e6)
        have Hrc6 := Lib.hid (Hrc.out.below hb6)
        have Hb6 := Lib.hid (Below.more Hb4.out hb6)
        have Hml : z.length ≤ maxLen := by have := Hzl.out; unfold maxLen; omega
        clear hb5 hb6 e6 hown5 hown6 hg5 hg6 Hrc
        have Hr5 := Lib.hid hr5; clear hr5
        have Hr6 := Lib.hid hr6; clear hr6
        go_wp2_with (first
          | (at_builtin; refine wpList_append_run rfl _ _ _ rfl Hr5.out rfl rfl ?_)
          | (at_builtin; refine wpList_append_run rfl _ _ _ rfl Hr6.out rfl rfl ?_))
        refine (same_b _ _ _ _ z z _ Hrc6.out Hrd.out Hml Hml _ (sameB_self z)).mono ?_
        rintro e w7 ⟨rfl, hb7⟩
        have Hb7 := Lib.hid (Below.more Hb6.out hb7); clear hb7 Hb6
        go_wp2_with fail
        go_ret
        exact ⟨rfl, Hb7.out⟩
      · rw [if_neg hlen] at hres
        have Hres := Lib.hid hres; clear hres
        go_wp2_with fail
        refine (split_any _ _ hsz _ Hres.out).mono ?_
        rintro e w4 ⟨hb4, rfl⟩
        have Hb4 := Lib.hid (Below.more Hb3.out hb4); clear hb4 Hb3
        go_wp2_with fail
        go_ret
        exact ⟨rfl, Hb4.out⟩
end Go.Proofs.Ytlcimhchkbaieaa
