/-
  The reference's Split (matinsref3).
-/
import Derived.Test.YtbgjpglnikbflaaDoorRef7A
import Derived.Test.YtbgjpglnikbflaaDoorLines8
namespace Go.Proofs.YtbgjpglnikbflaaDoor
open Go Go.RowKit
set_option linter.unusedVariables false
set_option maxRecDepth 100000

theorem infoStr : (Tryd.prog.info? 9).map (fun i => (i.zero, i.size, i.bytes)) = some (some (.string ⟨#[]⟩), 1, 16) := by kernel_rfl

theorem ext_str (s : ByteArray) (a b : Nat) (l : Str) (h : (s.extract a b).data.toList = l) : s.extract a b = ⟨l.toArray⟩ := by
  apply bytes_ext; rw [h]
theorem ext_list (s : ByteArray) (a b : Nat) : (s.extract a b).data.toList = (s.data.toList.drop a).take (b - a) := by
  rw [Lib.extract_data]
theorem no10_snoc {l : Str} {c : UInt8} (h : l.contains 10 = false) (hc : (c == 10) = false) : (l ++ [c]).contains 10 = false := by
  rw [← Bool.not_eq_true, List.contains_iff_mem] at h ⊢
  intro hm
  rcases List.mem_append.1 hm with hm | hm
  · exact h hm
  · simp at hm; rw [← hm] at hc; simp at hc
theorem drop_take_snoc (l : Str) (f k : Nat) (hf : f ≤ k) (hk : k < l.length) : (l.drop f).take (k + 1 - f) = (l.drop f).take (k - f) ++ [l[k]] := by
  have h : k - f < (l.drop f).length := by simp; omega
  rw [show k + 1 - f = (k - f) + 1 by omega, List.take_succ_eq_append_getElem h, List.getElem_drop]
  congr 3
  omega
theorem drop_cut (l : Str) (f k : Nat) (hf : f ≤ k) (hk : k < l.length) : l.drop f = (l.drop f).take (k - f) ++ l[k] :: l.drop (k + 1) := by
  have h1 := (List.take_append_drop (k - f) (l.drop f)).symm
  rw [List.drop_drop, show f + (k - f) = k by omega, List.drop_eq_getElem_cons hk] at h1
  exact h1

def OutRows (w : World) (rows : List Str) (e : Ending) (w' : World) : Prop :=
  Below w.heap.size w w' ∧ ∃ v, e = .returned v ∧ w'.ownsRow w.heap.size 9 1 v rows.length (strVals rows)

set_option maxHeartbeats 2000000 in
theorem splitR3_any (s : ByteArray) (w : World) (hs : s.size ≤ 1000000) (rows : List Str) (hrows : rowsS s.data.toList = rows) :
    Calls Tryd.prog 44 #[.string s, .int .u8 10] w fun e w' => OutRows w rows e w' := by
  have HRows := Lib.hid hrows; clear hrows
  obtain ⟨i0, hi, hz0, hz1, hz2⟩ := info_parts infoStr
  go_enter Tryd.func44, Tryd.ntmps44
  go_wp2_with fail
  go_loopg [5, 6, 7] (s.size + 1) (fun f v fr i wr => ∃ (fm k : Nat) (done : List Str), fm ≤ k ∧ k ≤ s.size ∧ fr = .int .i64 fm ∧ i = .int .i64 k ∧ s.size - k < f ∧ done.length ≤ k ∧ Hid (wr.ownsRow w.heap.size 9 1 v done.length (strVals done)) ∧
    Hid (done ++ rowsS (s.data.toList.drop fm) = rows) ∧ Hid (((s.data.toList.drop fm).take (k - fm)).contains 10 = false) ∧ Hid (Below w.heap.size w wr))
  case atStart => exact ⟨0, 0, [], by omega, by omega, rfl, rfl, by omega, by simp, World.ownsRow_nil _ _ _ _, by rw [List.drop_zero]; exact HRows.out, rfl, Below.refl _ _⟩
  case round =>
    obtain ⟨fm, k, done, hfk, hk, rfl, rfl, hfu, hdl, Hown, Hq, Hn, HB⟩ := hrel
    obtain ⟨oa, cap, rfl⟩ := ownsRow_form Hown.out
    have hsz := HB.out.size
    have hlen : s.data.toList.length = s.size := by simp
    by_cases hlt : k < s.size
    · have hlt' : k < s.data.toList.length := by rw [hlen]; exact hlt
      have e10 : ((s[k].toNat : Int) == 10) = (s[k] == 10) := beqU' (by decide)
      cases hc : (s[k] == 10) with
      | true =>
        have HX := Lib.hid (ext_str s fm k _ (ext_list s fm k))
        have HR := Lib.hid (show done ++ [(s.data.toList.drop fm).take (k - fm)] ++ rowsS (s.data.toList.drop (k + 1)) = rows by
          have h10 : s.data.toList[k] = 10 := eq_of_beq hc
          have e := drop_cut s.data.toList fm k hfk hlt'
          rw [h10] at e
          have e2 := (congrArg rowsS e).trans (rowsS_app Hn.out _)
          rw [← Hq.out, e2, List.append_assoc]
          rfl)
        rw [hc] at e10
        clear hc hlen
        have hown0 := Hown.out
        go_wp2_with (at_builtin; refine wpList_append_own _ rfl _ _ 36 rfl w.heap.size 9 i0 (.string ⟨#[]⟩) 1 16 Tryd.underlying36 hi hz0 hz1 hz2 rfl (by decide) _ _ _ rfl (hown0.alloc _) ⟨wr.heap.size, 0, none⟩ 1 1 [.string (s.extract fm k)] rfl rfl (by exact cell_one_new _ _ _) (by simp [Value.oneCell']) (by unfold maxLen; omega) (by omega) (by simp; omega) ?_)
        intro v' w2 hown' hgrow hnil
        have HB2 := Lib.hid ((HB.out.alloc hsz _).grown hgrow (by simp; omega) (fun g hg => (hown0.lt g hg).1))
        have HO2 := Lib.hid (show w2.ownsRow w.heap.size 9 1 v' (done ++ [(s.data.toList.drop fm).take (k - fm)]).length (strVals (done ++ [(s.data.toList.drop fm).take (k - fm)])) by
          rw [strVals_snoc, ← HX.out, List.length_append]; exact hown')
        clear hgrow hnil hown' hown0
        go_wp2_with fail
        go_roundg (s.size - k)
        case measure => omega
        case rel => exact ⟨k + 1, k + 1, _, by omega, by omega, by go_num, by go_num, by omega, by simp; omega, HO2, HR, by simp [Hid], HB2⟩
      | false =>
        have HT := Lib.hid (show ((s.data.toList.drop fm).take (k + 1 - fm)).contains 10 = false by
          rw [drop_take_snoc s.data.toList fm k hfk hlt']; exact no10_snoc Hn.out hc)
        rw [hc] at e10
        clear hc hlen
        go_wp2_with fail
        go_roundg (s.size - k)
        case measure => omega
        case rel => exact ⟨fm, k + 1, done, by omega, by omega, rfl, by go_num, by omega, by omega, Hown, Hq, HT, HB⟩
    · have : k = s.size := by omega
      subst this
      have HX := Lib.hid (ext_str s fm s.size (s.data.toList.drop fm) (Lib.extract_to_end s fm))
      have HR := Lib.hid (show done ++ [s.data.toList.drop fm] = rows by
        rw [← Hq.out, rowsS_one (by have := Hn.out; rw [List.take_of_length_le (by simp)] at this; exact this)])
      clear hlen
      have hown0 := Hown.out
      go_wp2_with (at_builtin; refine wpList_append_own _ rfl _ _ 36 rfl w.heap.size 9 i0 (.string ⟨#[]⟩) 1 16 Tryd.underlying36 hi hz0 hz1 hz2 rfl (by decide) _ _ _ rfl (hown0.alloc _) ⟨wr.heap.size, 0, none⟩ 1 1 [.string (s.extract fm s.size)] rfl rfl (by exact cell_one_new _ _ _) (by simp [Value.oneCell']) (by unfold maxLen; omega) (by omega) (by simp; omega) ?_)
      intro v' w2 hown' hgrow hnil
      have HB2 := Lib.hid ((HB.out.alloc hsz _).grown hgrow (by simp; omega) (fun g hg => (hown0.lt g hg).1))
      have HO2 := Lib.hid (show w2.ownsRow w.heap.size 9 1 v' rows.length (strVals rows) by
        rw [← HR.out, strVals_snoc, ← HX.out, List.length_append]; exact hown')
      clear hgrow hnil hown' hown0
      go_wp2_with fail
      go_ret
      exact ⟨HB2.out, v', rfl, HO2.out⟩
end Go.Proofs.YtbgjpglnikbflaaDoor
