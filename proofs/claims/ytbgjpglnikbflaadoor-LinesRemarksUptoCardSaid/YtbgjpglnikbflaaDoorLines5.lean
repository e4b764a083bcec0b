/-
  Package lines: the reader's line: its walks.
-/
import Derived.Test.YtbgjpglnikbflaaDoorLines4
namespace Go.Proofs.YtbgjpglnikbflaaDoor
open Go Go.RowKit
set_option linter.unusedVariables false
set_option maxRecDepth 100000

section
variable (R : Nat) (rows : List Str) (n : Nat) (sec : Str) (ov : Value) (at_ : Nat) (s : ByteArray) (w : World)

set_option maxHeartbeats 1000000 in
theorem line_bad (hs : s.size ≤ 1000000) (hg : goodS s.data.toList = false) :
    Calls Tryd.prog 24 #[.pointer (some ⟨R, 0, none⟩), .string s, .int .i64 at_] w fun e w' => e = .returned (.int .i64 1) ∧ Below w.heap.size w w' := by
  have HG := Lib.hid hg; clear hg
  go_enter Tryd.func24, Tryd.ntmps24
  go_wp2_with (go_at_call 38; refine (good_any _ _ (by omega) _ HG.out).mono ?_; rintro e w' ⟨rfl, rfl⟩)
  go_ret
  exact ⟨rfl, Below.refl _ _⟩

set_option maxHeartbeats 1000000 in
theorem line_long (hs : s.size ≤ 1000000) (hg : goodS s.data.toList = true) (hl : 400 < s.size) :
    Calls Tryd.prog 24 #[.pointer (some ⟨R, 0, none⟩), .string s, .int .i64 at_] w fun e w' => e = .returned (.int .i64 2) ∧ Below w.heap.size w w' := by
  have HG := Lib.hid hg; clear hg
  have hl' : (400 : Int) < (s.size : Int) := by omega
  go_enter Tryd.func24, Tryd.ntmps24
  go_wp2_with (go_at_call 38; refine (good_any _ _ (by omega) _ HG.out).mono ?_; rintro e w' ⟨rfl, rfl⟩)
  go_ret
  exact ⟨rfl, Below.refl _ _⟩

set_option maxHeartbeats 1000000 in
theorem line_void (hg : goodS s.data.toList = true) (hl : s.size ≤ 400) (ht : trimS s.data.toList = []) :
    Calls Tryd.prog 24 #[.pointer (some ⟨R, 0, none⟩), .string s, .int .i64 at_] w fun e w' => e = .returned (.int .i64 0) ∧ Below w.heap.size w w' := by
  have HG := Lib.hid hg; clear hg
  have HT := Lib.hid ht; clear ht
  have hl' : ¬ (400 : Int) < (s.size : Int) := by omega
  go_enter Tryd.func24, Tryd.ntmps24
  go_wp2_with (first
    | (go_at_call 38; refine (good_any _ _ (by omega) _ HG.out).mono ?_; rintro e w' ⟨rfl, rfl⟩)
    | (go_at_call 22; refine (trim_any _ _ (by omega) _ HT.out).mono ?_; rintro e w1 ⟨rfl, hb1⟩))
  go_ret
  exact ⟨rfl, hb1⟩

set_option maxHeartbeats 1000000 in
theorem line_open_no (hg : goodS s.data.toList = true) (hl : s.size ≤ 400) (t : Str) (ht : trimS s.data.toList = 91 :: t) (he : (t.getLast? == some 93) = false) :
    Calls Tryd.prog 24 #[.pointer (some ⟨R, 0, none⟩), .string s, .int .i64 at_] w fun e w' => e = .returned (.int .i64 10) ∧ Below w.heap.size w w' := by
  have HG := Lib.hid hg; clear hg
  have htl := trimS_len s.data.toList
  rw [ht] at htl
  simp only [List.length_cons] at htl
  have hsz : s.data.toList.length = s.size := by simp
  rw [hsz] at htl
  have HT := Lib.hid ht; clear ht hsz
  have HE := Lib.hid he; clear he
  have hl' : ¬ (400 : Int) < (s.size : Int) := by omega
  obtain ⟨x, hx⟩ : ∃ x : ByteArray, x = ⟨(91 :: t : Str).toArray⟩ := ⟨_, rfl⟩
  have hxl : x.data.toList = 91 :: t := by rw [hx]
  obtain ⟨h0, hc⟩ := head_of hxl
  obtain ⟨n1, n2, n3, n4⟩ := str_ne (s := x) (by omega)
  have HX := Lib.hid hx.symm; clear hx
  have HXl := Lib.hid hxl; clear hxl hc
  have hts : (⟨t.toArray⟩ : ByteArray).size ≤ 9223372036854775807 := by show t.length ≤ _; omega
  go_enter Tryd.func24, Tryd.ntmps24
  go_wp2_with (first
    | (go_at_call 38; refine (good_any _ _ (by omega) _ HG.out).mono ?_; rintro e w' ⟨rfl, rfl⟩)
    | (go_at_call 22; refine (trim_any _ _ (by omega) _ HT.out).mono ?_; rintro e w1 ⟨rfl, hb1⟩; rw [HX.out])
    | (go_at_call 39; refine (cutOpen x 91 t _ HXl.out true rfl t rfl).mono ?_; rintro e w' ⟨rfl, rfl⟩)
    | (go_at_call 40; refine (cutEnd_no _ _ hts HE.out).mono ?_; rintro e w' ⟨rfl, rfl⟩))
  go_ret
  exact ⟨rfl, hb1⟩

set_option maxHeartbeats 1000000 in
theorem line_open_bad (hg : goodS s.data.toList = true) (hl : s.size ≤ 400) (t : Str) (ht : trimS s.data.toList = 91 :: t) (he : (t.getLast? == some 93) = true) (hb : sectB t.dropLast = false) :
    Calls Tryd.prog 24 #[.pointer (some ⟨R, 0, none⟩), .string s, .int .i64 at_] w fun e w' => e = .returned (.int .i64 10) ∧ Below w.heap.size w w' := by
  have HG := Lib.hid hg; clear hg
  have htl := trimS_len s.data.toList
  rw [ht] at htl
  simp only [List.length_cons] at htl
  have hsz : s.data.toList.length = s.size := by simp
  rw [hsz] at htl
  have HT := Lib.hid ht; clear ht hsz
  have HE := Lib.hid he; clear he
  have HB := Lib.hid hb; clear hb
  have hl' : ¬ (400 : Int) < (s.size : Int) := by omega
  obtain ⟨x, hx⟩ : ∃ x : ByteArray, x = ⟨(91 :: t : Str).toArray⟩ := ⟨_, rfl⟩
  have hxl : x.data.toList = 91 :: t := by rw [hx]
  obtain ⟨h0, hc⟩ := head_of hxl
  obtain ⟨n1, n2, n3, n4⟩ := str_ne (s := x) (by omega)
  have HX := Lib.hid hx.symm; clear hx
  have HXl := Lib.hid hxl; clear hxl hc
  have hts : (⟨t.toArray⟩ : ByteArray).size ≤ 9223372036854775807 := by show t.length ≤ _; omega
  have hds : (⟨t.dropLast.toArray⟩ : ByteArray).size ≤ 9223372036854775807 := by show t.dropLast.length ≤ _; simp; omega
  go_enter Tryd.func24, Tryd.ntmps24
  go_wp2_with (first
    | (go_at_call 38; refine (good_any _ _ (by omega) _ HG.out).mono ?_; rintro e w' ⟨rfl, rfl⟩)
    | (go_at_call 22; refine (trim_any _ _ (by omega) _ HT.out).mono ?_; rintro e w1 ⟨rfl, hb1⟩; rw [HX.out])
    | (go_at_call 39; refine (cutOpen x 91 t _ HXl.out true rfl t rfl).mono ?_; rintro e w' ⟨rfl, rfl⟩)
    | (go_at_call 40; refine (cutEnd_yes _ _ hts HE.out _ rfl).mono ?_; rintro e w' ⟨rfl, rfl⟩)
    | (go_at_call 41; refine (section_any _ _ hds _ HB.out).mono ?_; rintro e w' ⟨rfl, rfl⟩))
  go_ret
  exact ⟨rfl, hb1⟩

set_option maxHeartbeats 1000000 in
theorem line_open_yes (hL : LRd R rows n sec ov w) (hg : goodS s.data.toList = true) (hl : s.size ≤ 400) (t : Str) (ht : trimS s.data.toList = 91 :: t) (he : (t.getLast? == some 93) = true) (hb : sectB t.dropLast = true) :
    Calls Tryd.prog 24 #[.pointer (some ⟨R, 0, none⟩), .string s, .int .i64 at_] w fun e w' => e = .returned (.int .i64 0) ∧ LRd R rows n t.dropLast ov w' ∧ Fr (· = R) w w' := by
  have HG := Lib.hid hg; clear hg
  have htl := trimS_len s.data.toList
  rw [ht] at htl
  simp only [List.length_cons] at htl
  have hsz : s.data.toList.length = s.size := by simp
  rw [hsz] at htl
  have HT := Lib.hid ht; clear ht hsz
  have HE := Lib.hid he; clear he
  have HB := Lib.hid hb; clear hb
  have hl' : ¬ (400 : Int) < (s.size : Int) := by omega
  obtain ⟨x, hx⟩ : ∃ x : ByteArray, x = ⟨(91 :: t : Str).toArray⟩ := ⟨_, rfl⟩
  have hxl : x.data.toList = 91 :: t := by rw [hx]
  obtain ⟨h0, hc⟩ := head_of hxl
  obtain ⟨n1, n2, n3, n4⟩ := str_ne (s := x) (by omega)
  have HX := Lib.hid hx.symm; clear hx
  have HXl := Lib.hid hxl; clear hxl hc
  have hts : (⟨t.toArray⟩ : ByteArray).size ≤ 9223372036854775807 := by show t.length ≤ _; omega
  have hds : (⟨t.dropLast.toArray⟩ : ByteArray).size ≤ 9223372036854775807 := by show t.dropLast.length ≤ _; simp; omega
  go_enter Tryd.func24, Tryd.ntmps24
  go_wp2_with (first
    | (go_at_call 38; refine (good_any _ _ (by omega) _ HG.out).mono ?_; rintro e w' ⟨rfl, rfl⟩)
    | (go_at_call 22; refine (trim_any _ _ (by omega) _ HT.out).mono ?_; rintro e w1 ⟨rfl, hb1⟩; rw [HX.out]))
  refine (cutOpen x 91 t _ HXl.out true rfl t rfl).mono ?_
  rintro e w' ⟨rfl, rfl⟩
  have hL1 := hL.below hb1
  obtain ⟨oa, cap, c0, c1, c2, c3, f2, f3, -⟩ := hL1.rd
  have HF1 := Lib.hid (Fr.of_below hb1 (· = R))
  clear hL hb1
  go_wp2_with (first
    | (go_at_call 40; refine (cutEnd_yes _ _ hts HE.out _ rfl).mono ?_; rintro e w' ⟨rfl, rfl⟩)
    | (go_at_call 41; refine (section_any _ _ hds _ HB.out).mono ?_; rintro e w' ⟨rfl, rfl⟩))
  go_ret
  refine ⟨rfl, ?_, Fr.setCell (M := (· = R)) HF1.out (p := ⟨R, 2, none⟩) (fun _ => rfl) _⟩
  obtain ⟨v, h1, h2, h3⟩ := hL1
  have h4 := heap_setCell h1 2 (.string ⟨t.dropLast.toArray⟩)
  exact ⟨v, by rw [h4]; rfl, h2.fr (Fr.setCell (M := (· = R)) (Fr.refl _ _) (p := ⟨R, 2, none⟩) (fun _ => rfl) _) (fun k hk => by omega), h3⟩
end
end Go.Proofs.YtbgjpglnikbflaaDoor
