/-
  Package lines: the reader's line: a key's line that may be.
-/
import Derived.Test.YtbgjpglnikbflaaDoorLines6
namespace Go.Proofs.YtbgjpglnikbflaaDoor
open Go Go.RowKit
set_option linter.unusedVariables false
set_option maxRecDepth 100000

section
variable (R : Nat) (rows : List Str) (n : Nat) (sec : Str) (ov : Value) (at_ : Nat) (s : ByteArray) (w : World)
variable (out : List Ln)
set_option maxHeartbeats 1000000 in
theorem line_pair (hL : LRd R rows n sec ov w) (hS : Said R out ov w) (hout : out.length ≤ 1000000) (hat : at_ ≤ 1000000) (hsec : sec ≠ []) (hm : MaxAt w) (hg : goodS s.data.toList = true) (hl : s.size ≤ 400) (c : UInt8) (t : Str) (ht : trimS s.data.toList = c :: t) (h91 : (c == 91) = false) (k v : Str) (hq : cutEq (c :: t) = some (k, v)) (hk : keyB (trimS k) = true) :
    Calls Tryd.prog 24 #[.pointer (some ⟨R, 0, none⟩), .string s, .int .i64 at_] w fun e w' => e = .returned (.int .i64 0) ∧ ∃ ov', LRd R rows n sec ov' w' ∧ Said R (out ++ [⟨sec, trimS k, trimS v, (at_ : Int)⟩]) ov' w' ∧ Fr (fun b => R ≤ b) w w' := by
  have HG := Lib.hid hg; clear hg
  have htl := trimS_len s.data.toList
  rw [ht] at htl
  have hsz : s.data.toList.length = s.size := by simp
  rw [hsz] at htl
  have HT := Lib.hid ht; clear ht hsz
  have H91 := Lib.hid h91; clear h91
  have hl' : ¬ (400 : Int) < (s.size : Int) := by omega
  obtain ⟨x, hx⟩ : ∃ x : ByteArray, x = ⟨(c :: t : Str).toArray⟩ := ⟨_, rfl⟩
  have hxl : x.data.toList = c :: t := by rw [hx]
  have hxs : x.size ≤ 400 := by have : x.size = (c :: t).length := by rw [hx]; rfl
                                omega
  have hkl : k.length ≤ 400 ∧ v.length ≤ 400 := by
    have := cutEq_len hq
    rw [this] at htl
    simp at htl
    omega
  obtain ⟨hkl, hvl⟩ := hkl
  rw [← hxl] at hq
  have HQ := Lib.hid hq; clear hq
  obtain ⟨h0, hc⟩ := head_of hxl
  obtain ⟨n1, n2, n3, n4⟩ := str_ne (s := x) (by omega)
  have HX := Lib.hid hx.symm; clear hx
  have HXl := Lib.hid hxl; clear hxl hc htl
  have hks : (⟨k.toArray⟩ : ByteArray).size ≤ 9223372036854775807 := by show k.length ≤ _; omega
  obtain ⟨tk, htk⟩ : ∃ tk, trimS k = tk := ⟨_, rfl⟩
  have htkl : tk.length ≤ 400 := by rw [← htk]; have := trimS_len k; omega
  rw [htk] at hk
  have HTk := Lib.hid htk; clear htk
  have HK := Lib.hid hk; clear hk
  have htks : (⟨tk.toArray⟩ : ByteArray).size ≤ 9223372036854775807 := by show tk.length ≤ _; omega
  go_enter Tryd.func24, Tryd.ntmps24
  go_wp2_with (first
    | (go_at_call 38; refine (good_any _ _ (by omega) _ HG.out).mono ?_; rintro e w' ⟨rfl, rfl⟩)
    | (go_at_call 22; refine (trim_any s _ (by omega) _ HT.out).mono ?_; rintro e w1 ⟨rfl, hb1⟩; rw [HX.out]))
  refine (cutOpen x c t _ HXl.out false H91.out (c :: t) rfl).mono ?_
  rintro e w' ⟨rfl, rfl⟩
  have hm1 := hm.below hb1
  clear hm
  go_wp2_with ((go_at_call 42; refine (cut_yes x k v _ (by omega) hm1 HQ.out).mono ?_; rintro e w' ⟨rfl, q, rfl⟩))
  refine (trim_any _ _ hks _ HTk.out).mono ?_
  rintro e w2 ⟨rfl, hb2⟩
  have HB := Lib.hid ((drew_below (n := q) hb1).trans (hb2.mono hb1.size))
  have hsz2 := hb1.size
  have hsz3 := hb2.size
  clear hb1 hb2
  go_wp2_with fail
  refine (key_any _ _ htks _ HK.out).mono ?_
  rintro e w3 ⟨rfl, hb3⟩
  have HB3 := Lib.hid (HB.out.trans (hb3.mono HB.out.size))
  clear hb3
  have hL3 := hL.below HB3.out
  have hS3 := hS.below HB3.out
  obtain ⟨sb, hsb⟩ : ∃ sb : ByteArray, sb = ⟨sec.toArray⟩ := ⟨_, rfl⟩
  obtain ⟨oa, cap, c0, c1, c2, c3, f2, f3, -⟩ := hL3.rd
  rw [← hsb] at c2
  have hsb0 : sb.size ≠ 0 := by
    rw [hsb]; intro e; exact hsec (List.eq_nil_of_length_eq_zero e)
  obtain ⟨m1, m2, m3, m4⟩ := str_ne hsb0
  have HSb := Lib.hid hsb; clear hsb hsb0
  clear hL hS
  go_wp2_with fail
  have HL3 := Lib.hid hL3; clear hL3
  have HS3 := Lib.hid hS3; clear hS3
  clear htkl htks hks hkl hxs n1 n2 n3 n4 m1 m2 m3 m4 hsz2 hsz3 HXl HX HQ HK HG HT H91 h0 hl'
  have hRlt := HL3.out.lt
  obtain ⟨i0, hi0, hz0, hz1, hz2⟩ := info_parts infoLine
  have hvs : (⟨v.toArray⟩ : ByteArray).size ≤ 9223372036854775807 := by show v.length ≤ _; omega
  obtain ⟨tv, htv⟩ : ∃ tv, trimS v = tv := ⟨_, rfl⟩
  have HTv := Lib.hid htv; clear htv
  go_region_law (first
    | (go_simp; go_at_call 22; refine (trim_any ⟨v.toArray⟩ _ hvs _ HTv.out).mono ?_; rintro e w4 ⟨rfl, hb4⟩
       have HL4 := Lib.hid (LRd.below (show LRd R rows n sec ov w3.drew from HL3.out) hb4)
       have HS4 := Lib.hid (Said.below (show Said R out ov w3.drew from HS3.out) hb4)
       obtain ⟨oa4, cap4, -, -, d2, d3, g2, g3, -⟩ := HL4.out.rd
       rw [← HSb.out] at d2
       have hsz4 : w3.heap.size ≤ w4.heap.size := hb4.size
       have HB4 := Lib.hid (show Below w3.heap.size w3 w4 from ⟨hb4.os, hb4.tape, hb4.output, hb4.size, hb4.block⟩)
       have hR4 : R < w4.heap.size := Nat.lt_of_lt_of_le hRlt hsz4
       clear hb4)
    | (refine step_append_lies _ (by rfl) _ _ _ (by rfl) (R + 1) 34 i0 _ 4 56 Tryd.underlying23 hi0 hz0 hz1 hz2 rfl (by omega) ov out.length (lnVals out) (by rfl) (World.ownsRow.alloc (show w4.ownsRow (R + 1) 34 4 ov out.length (lnVals out) from HS4.out) _)
        ⟨w4.heap.size, 0, none⟩ 1 1 [.string sb, .string ⟨tk.toArray⟩, .string ⟨tv.toArray⟩, .int .i64 at_] (by rfl) (by rfl) (World.news_of_block (cs := #[.string sb, .string ⟨tk.toArray⟩, .string ⟨tv.toArray⟩, .int .i64 at_]) (t := 34) (fr := (0, 0)) (heap_alloc_new w4 _)) (by simp [Value.oneCell'])
        (by omega) (by unfold maxLen; omega) (by omega) (by simp; omega) (w4.heap.size + 1) (by simp) ?_; intro gg cap5 w5 hown5 hgrow hat5 hlt5
       have k3 : w5.cell? ⟨R, 3, none⟩ = some ov := (far_cells hR4 hgrow HS4.out.ne 3).1.trans d3
       have k4 : w5.frozen? ⟨R, 3, none⟩ = false := (far_cells hR4 hgrow HS4.out.ne 3).2.trans g3
       have HG5 := Lib.hid (And.intro hgrow hown5)
       clear hgrow hown5 hat5))
  all_goals
    go_wp2_with fail
    go_ret
    refine ⟨rfl, .slice (some ⟨gg, 0, none⟩) (out.length + 1) cap5, ?_⟩
    exact spoke HL4.out HS4.out HG5.out.1 HG5.out.2 (HB3.out.trans (HB4.out.mono HB3.out.size)) HSb.out HTk.out HTv.out

end
end Go.Proofs.YtbgjpglnikbflaaDoor
