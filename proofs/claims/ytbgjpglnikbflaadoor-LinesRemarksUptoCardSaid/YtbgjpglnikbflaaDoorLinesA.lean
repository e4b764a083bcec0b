/-
  Package lines: may.
-/
import Derived.Test.YtbgjpglnikbflaaDoorLines3
import Derived.Deep.AppendLies
import Derived.Lib.QuietBelow
namespace Go.Proofs.YtbgjpglnikbflaaDoor
open Go Go.RowKit Go.Sort Go.BigFrame
set_option linter.unusedVariables false
set_option maxRecDepth 100000

theorem hasBack (s : ByteArray) (w : World) (h63 : s.size ≤ 9223372036854775807) (b : Bool) (hb : goesOn s.data.toList = b) :
    Calls Tryd.prog 50 #[.string s, .string ⟨#[92]⟩] w fun e w' => e = .returned (.bool b) ∧ w = w' := by
  refine (Tryd.strings_HasSuffix s ⟨#[92]⟩ w h63).mono ?_
  rintro e w' ⟨rfl, rfl⟩
  refine ⟨?_, rfl⟩
  rw [← hb]
  show Ending.returned (.bool (Lib.hasSuffix s.data.toList [92])) = _
  rw [hasSuffix_one]; rfl

/-- Where a line fails, if it does. -/
inductive MayCase (sec key val : Str) (b : Bool) : Prop where
  | sec (h1 : sectB sec = false) (hb : b = false)
  | key (h1 : sectB sec = true) (h2 : keyB key = false) (hb : b = false)
  | good (h1 : sectB sec = true) (h2 : keyB key = true) (h3 : goodS val = false) (hb : b = false)
  | trim (h1 : sectB sec = true) (h2 : keyB key = true) (h3 : goodS val = true) (h4 : (trimS val == val) = false) (hb : b = false)
  | back (h1 : sectB sec = true) (h2 : keyB key = true) (h3 : goodS val = true) (h4 : (trimS val == val) = true) (h5 : goesOn val = true) (hb : b = false)
  | len (h1 : sectB sec = true) (h2 : keyB key = true) (h3 : goodS val = true) (h4 : (trimS val == val) = true) (h5 : goesOn val = false) (h6 : decide (key.length + 1 + val.length ≤ 400) = b)
theorem mayCase (sec key val : Str) (n : Int) (b : Bool) (h : mayLn ⟨sec, key, val, n⟩ = b) : MayCase sec key val b := by
  unfold mayLn at h
  simp only at h
  cases h1 : sectB sec with
  | false => rw [h1] at h; simp at h; exact .sec h1 h
  | true =>
    cases h2 : keyB key with
    | false => rw [h1, h2] at h; simp at h; exact .key h1 h2 h
    | true =>
      cases h3 : goodS val with
      | false => rw [h1, h2, h3] at h; simp at h; exact .good h1 h2 h3 h
      | true =>
        cases h4 : (trimS val == val) with
        | false => rw [h1, h2, h3, h4] at h; simp at h; exact .trim h1 h2 h3 h4 h
        | true =>
          cases h5 : goesOn val with
          | true => rw [h1, h2, h3, h4, h5] at h; simp at h; exact .back h1 h2 h3 h4 h5 h
          | false => rw [h1, h2, h3, h4, h5] at h; simp only [Bool.and_true, Bool.true_and, Bool.not_false] at h; exact .len h1 h2 h3 h4 h5 h

theorem may_end {w w1 w2 : World} {R : Nat} (hR : w.heap.size = R) (h1 : Below R w w1) (h2 : Below w1.heap.size w1 w2) : Below w.heap.size w w2 := by
  subst hR
  exact h1.trans (h2.mono h1.size)

set_option maxHeartbeats 4000000 in
theorem may_any (sa ka va : ByteArray) (n : Int) (w : World) (hs : sa.size ≤ 1000000000) (hk : ka.size ≤ 1000000000) (hv : va.size ≤ 1000000000) (b : Bool) (hb : mayLn ⟨sa.data.toList, ka.data.toList, va.data.toList, n⟩ = b) :
    Calls Tryd.prog 32 #[.agg #[.string sa, .string ka, .string va, .int .i64 n]] w fun e w' => e = .returned (.bool b) ∧ Below w.heap.size w w' := by
  obtain ⟨tv, htv⟩ : ∃ tv, trimS va.data.toList = tv := ⟨_, rfl⟩
  obtain ⟨y, hy⟩ : ∃ y : ByteArray, y = ⟨tv.toArray⟩ := ⟨_, rfl⟩
  have hyl : y.data.toList = tv := by rw [hy]
  have hlk : ka.data.toList.length = ka.size := by simp
  have hlv : va.data.toList.length = va.size := by simp
  have hc := mayCase _ _ _ n b hb
  have hB : Below w.heap.size w (w.alloc (.cells #[.string sa, .string ka, .string va, .int .i64 n] 34)) := (Below.refl _ _).alloc (Nat.le_refl _) _
  obtain ⟨bc, -, -, blt⟩ := rd (heap_alloc_new w (.cells #[.string sa, .string ka, .string va, .int .i64 n] 34))
  have heq : ∀ q, (trimS va.data.toList == va.data.toList) = q → (y.toList == va.toList) = q := by
    intro q hq
    rw [← hq, ByteArray.toList_eq, ByteArray.toList_eq, hyl, htv]
  have HTv := Lib.hid htv; clear htv
  have HY := Lib.hid hy.symm; clear hy hyl hb
  have g0 : (w.alloc (.cells #[.string sa, .string ka, .string va, .int .i64 n] 34)).cell? ⟨w.heap.size, 0, none⟩ = some (.string sa) := by rw [bc]; rfl
  have g1 : (w.alloc (.cells #[.string sa, .string ka, .string va, .int .i64 n] 34)).cell? ⟨w.heap.size, 1, none⟩ = some (.string ka) := by rw [bc]; rfl
  have g2 : (w.alloc (.cells #[.string sa, .string ka, .string va, .int .i64 n] 34)).cell? ⟨w.heap.size, 2, none⟩ = some (.string va) := by rw [bc]; rfl
  clear bc
  cases hc with
  | sec h1 hb =>
    subst hb
    have H1 := Lib.hid h1; clear h1
    clear heq hlk hlv
    go_enter Tryd.func32, Tryd.ntmps32
    go_wp2_with fail
    generalize w.alloc (.cells #[.string sa, .string ka, .string va, .int .i64 n] 34) = w1 at *
    generalize hRn : w.heap.size = R at *
    have HRn := Lib.hid hRn; clear hRn
    have k0 := cell_regrown g0
    have k1 := cell_regrown g1
    have k2 := cell_regrown g2
    have cS : ∀ d os, Calls Tryd.prog 41 #[.string sa] (grow (redrawn w1 d) os) fun e w'' => e = .returned (.bool false) ∧ ∃ p : Regrown, w'' = grow (redrawn w1 p.d) p.os := fun d os => Calls.regrown_of ((section_any sa _ (by omega) _ H1.out).mono fun _ _ ⟨a, b⟩ => ⟨a, b ▸ Below.refl _ _⟩)
    refine wp_region_quiet_below (by kernel_rfl) (by kernel_rfl) ?_
    repeat (go_big_quiet_step (first | exact cS _ _))
    refine wpQuiet_nil ?_
    intro _ hw'
    obtain ⟨⟨dq, osq⟩, hw''⟩ := hw'
    subst hw''
    go_wp2_with fail
    go_ret
    exact ⟨rfl, may_end HRn.out hB (below_regrown w1 dq osq)⟩
  | key h1 h2 hb =>
    subst hb
    have H1 := Lib.hid h1; clear h1
    have H2 := Lib.hid h2; clear h2
    clear heq hlk hlv
    go_enter Tryd.func32, Tryd.ntmps32
    go_wp2_with fail
    generalize w.alloc (.cells #[.string sa, .string ka, .string va, .int .i64 n] 34) = w1 at *
    generalize hRn : w.heap.size = R at *
    have HRn := Lib.hid hRn; clear hRn
    have k0 := cell_regrown g0
    have k1 := cell_regrown g1
    have k2 := cell_regrown g2
    have cS : ∀ d os, Calls Tryd.prog 41 #[.string sa] (grow (redrawn w1 d) os) fun e w'' => e = .returned (.bool true) ∧ ∃ p : Regrown, w'' = grow (redrawn w1 p.d) p.os := fun d os => Calls.regrown_of ((section_any sa _ (by omega) _ H1.out).mono fun _ _ ⟨a, b⟩ => ⟨a, b ▸ Below.refl _ _⟩)
    have cK : ∀ d os, Calls Tryd.prog 43 #[.string ka] (grow (redrawn w1 d) os) fun e w'' => e = .returned (.bool false) ∧ ∃ p : Regrown, w'' = grow (redrawn w1 p.d) p.os := fun d os => Calls.regrown_of (key_any ka _ (by omega) _ H2.out)
    refine wp_region_quiet_below (by kernel_rfl) (by kernel_rfl) ?_
    repeat (go_big_quiet_step (first | exact cS _ _ | exact cK _ _))
    refine wpQuiet_nil ?_
    intro _ hw'
    obtain ⟨⟨dq, osq⟩, hw''⟩ := hw'
    subst hw''
    go_wp2_with fail
    go_ret
    exact ⟨rfl, may_end HRn.out hB (below_regrown w1 dq osq)⟩
  | good h1 h2 h3 hb =>
    subst hb
    have H1 := Lib.hid h1; clear h1
    have H2 := Lib.hid h2; clear h2
    have H3 := Lib.hid h3; clear h3
    clear heq hlk hlv
    go_enter Tryd.func32, Tryd.ntmps32
    go_wp2_with fail
    generalize w.alloc (.cells #[.string sa, .string ka, .string va, .int .i64 n] 34) = w1 at *
    generalize hRn : w.heap.size = R at *
    have HRn := Lib.hid hRn; clear hRn
    have k0 := cell_regrown g0
    have k1 := cell_regrown g1
    have k2 := cell_regrown g2
    have cS : ∀ d os, Calls Tryd.prog 41 #[.string sa] (grow (redrawn w1 d) os) fun e w'' => e = .returned (.bool true) ∧ ∃ p : Regrown, w'' = grow (redrawn w1 p.d) p.os := fun d os => Calls.regrown_of ((section_any sa _ (by omega) _ H1.out).mono fun _ _ ⟨a, b⟩ => ⟨a, b ▸ Below.refl _ _⟩)
    have cK : ∀ d os, Calls Tryd.prog 43 #[.string ka] (grow (redrawn w1 d) os) fun e w'' => e = .returned (.bool true) ∧ ∃ p : Regrown, w'' = grow (redrawn w1 p.d) p.os := fun d os => Calls.regrown_of (key_any ka _ (by omega) _ H2.out)
    have cG : ∀ d os, Calls Tryd.prog 38 #[.string va] (grow (redrawn w1 d) os) fun e w'' => e = .returned (.bool false) ∧ ∃ p : Regrown, w'' = grow (redrawn w1 p.d) p.os := fun d os => Calls.regrown_of ((good_any va _ (by omega) _ H3.out).mono fun _ _ ⟨a, b⟩ => ⟨a, b ▸ Below.refl _ _⟩)
    refine wp_region_quiet_below (by kernel_rfl) (by kernel_rfl) ?_
    repeat (go_big_quiet_step (first | exact cS _ _ | exact cK _ _ | exact cG _ _))
    refine wpQuiet_nil ?_
    intro _ hw'
    obtain ⟨⟨dq, osq⟩, hw''⟩ := hw'
    subst hw''
    go_wp2_with fail
    go_ret
    exact ⟨rfl, may_end HRn.out hB (below_regrown w1 dq osq)⟩
  | trim h1 h2 h3 h4 hb =>
    subst hb
    have q4 := heq _ h4
    have H1 := Lib.hid h1; clear h1
    have H2 := Lib.hid h2; clear h2
    have H3 := Lib.hid h3; clear h3
    clear heq hlk hlv h4
    go_enter Tryd.func32, Tryd.ntmps32
    go_wp2_with fail
    generalize w.alloc (.cells #[.string sa, .string ka, .string va, .int .i64 n] 34) = w1 at *
    generalize hRn : w.heap.size = R at *
    have HRn := Lib.hid hRn; clear hRn
    have k0 := cell_regrown g0
    have k1 := cell_regrown g1
    have k2 := cell_regrown g2
    have cS : ∀ d os, Calls Tryd.prog 41 #[.string sa] (grow (redrawn w1 d) os) fun e w'' => e = .returned (.bool true) ∧ ∃ p : Regrown, w'' = grow (redrawn w1 p.d) p.os := fun d os => Calls.regrown_of ((section_any sa _ (by omega) _ H1.out).mono fun _ _ ⟨a, b⟩ => ⟨a, b ▸ Below.refl _ _⟩)
    have cK : ∀ d os, Calls Tryd.prog 43 #[.string ka] (grow (redrawn w1 d) os) fun e w'' => e = .returned (.bool true) ∧ ∃ p : Regrown, w'' = grow (redrawn w1 p.d) p.os := fun d os => Calls.regrown_of (key_any ka _ (by omega) _ H2.out)
    have cG : ∀ d os, Calls Tryd.prog 38 #[.string va] (grow (redrawn w1 d) os) fun e w'' => e = .returned (.bool true) ∧ ∃ p : Regrown, w'' = grow (redrawn w1 p.d) p.os := fun d os => Calls.regrown_of ((good_any va _ (by omega) _ H3.out).mono fun _ _ ⟨a, b⟩ => ⟨a, b ▸ Below.refl _ _⟩)
    have cT : ∀ d os, Calls Tryd.prog 22 #[.string va] (grow (redrawn w1 d) os) fun e w'' => e = .returned (.string y) ∧ ∃ p : Regrown, w'' = grow (redrawn w1 p.d) p.os := fun d os => Calls.regrown_of ((trim_any va _ (by omega) _ HTv.out).mono fun _ _ ⟨a, b⟩ => ⟨by rw [a, HY.out], b⟩)
    refine wp_region_quiet_below (by kernel_rfl) (by kernel_rfl) ?_
    repeat (go_big_quiet_step (first | exact cS _ _ | exact cK _ _ | exact cG _ _ | exact cT _ _))
    refine wpQuiet_nil ?_
    intro _ hw'
    obtain ⟨⟨dq, osq⟩, hw''⟩ := hw'
    subst hw''
    go_wp2_with fail
    go_ret
    exact ⟨rfl, may_end HRn.out hB (below_regrown w1 dq osq)⟩
  | back h1 h2 h3 h4 h5 hb =>
    subst hb
    have q4 := heq _ h4
    have H1 := Lib.hid h1; clear h1
    have H2 := Lib.hid h2; clear h2
    have H3 := Lib.hid h3; clear h3
    have H5 := Lib.hid h5; clear h5
    clear heq hlk hlv h4
    go_enter Tryd.func32, Tryd.ntmps32
    go_wp2_with fail
    generalize w.alloc (.cells #[.string sa, .string ka, .string va, .int .i64 n] 34) = w1 at *
    generalize hRn : w.heap.size = R at *
    have HRn := Lib.hid hRn; clear hRn
    have k0 := cell_regrown g0
    have k1 := cell_regrown g1
    have k2 := cell_regrown g2
    have cS : ∀ d os, Calls Tryd.prog 41 #[.string sa] (grow (redrawn w1 d) os) fun e w'' => e = .returned (.bool true) ∧ ∃ p : Regrown, w'' = grow (redrawn w1 p.d) p.os := fun d os => Calls.regrown_of ((section_any sa _ (by omega) _ H1.out).mono fun _ _ ⟨a, b⟩ => ⟨a, b ▸ Below.refl _ _⟩)
    have cK : ∀ d os, Calls Tryd.prog 43 #[.string ka] (grow (redrawn w1 d) os) fun e w'' => e = .returned (.bool true) ∧ ∃ p : Regrown, w'' = grow (redrawn w1 p.d) p.os := fun d os => Calls.regrown_of (key_any ka _ (by omega) _ H2.out)
    have cG : ∀ d os, Calls Tryd.prog 38 #[.string va] (grow (redrawn w1 d) os) fun e w'' => e = .returned (.bool true) ∧ ∃ p : Regrown, w'' = grow (redrawn w1 p.d) p.os := fun d os => Calls.regrown_of ((good_any va _ (by omega) _ H3.out).mono fun _ _ ⟨a, b⟩ => ⟨a, b ▸ Below.refl _ _⟩)
    have cT : ∀ d os, Calls Tryd.prog 22 #[.string va] (grow (redrawn w1 d) os) fun e w'' => e = .returned (.string y) ∧ ∃ p : Regrown, w'' = grow (redrawn w1 p.d) p.os := fun d os => Calls.regrown_of ((trim_any va _ (by omega) _ HTv.out).mono fun _ _ ⟨a, b⟩ => ⟨by rw [a, HY.out], b⟩)
    have cH : ∀ d os, Calls Tryd.prog 50 #[.string va, .string ⟨#[92]⟩] (grow (redrawn w1 d) os) fun e w'' => e = .returned (.bool true) ∧ ∃ p : Regrown, w'' = grow (redrawn w1 p.d) p.os := fun d os => Calls.regrown_of ((hasBack va _ (by omega) _ H5.out).mono fun _ _ ⟨a, b⟩ => ⟨a, b ▸ Below.refl _ _⟩)
    refine wp_region_quiet_below (by kernel_rfl) (by kernel_rfl) ?_
    repeat (go_big_quiet_step (first | exact cS _ _ | exact cK _ _ | exact cG _ _ | exact cT _ _ | exact cH _ _))
    refine wpQuiet_nil ?_
    intro _ hw'
    obtain ⟨⟨dq, osq⟩, hw''⟩ := hw'
    subst hw''
    go_wp2_with fail
    go_ret
    exact ⟨rfl, may_end HRn.out hB (below_regrown w1 dq osq)⟩
  | len h1 h2 h3 h4 h5 h6 =>
    have q4 := heq _ h4
    rw [hlk, hlv] at h6
    have H1 := Lib.hid h1; clear h1
    have H2 := Lib.hid h2; clear h2
    have H3 := Lib.hid h3; clear h3
    have H5 := Lib.hid h5; clear h5
    have H6 := Lib.hid h6; clear h6
    clear heq hlk hlv h4
    go_enter Tryd.func32, Tryd.ntmps32
    go_wp2_with fail
    generalize w.alloc (.cells #[.string sa, .string ka, .string va, .int .i64 n] 34) = w1 at *
    generalize hRn : w.heap.size = R at *
    have HRn := Lib.hid hRn; clear hRn
    have k0 := cell_regrown g0
    have k1 := cell_regrown g1
    have k2 := cell_regrown g2
    have cS : ∀ d os, Calls Tryd.prog 41 #[.string sa] (grow (redrawn w1 d) os) fun e w'' => e = .returned (.bool true) ∧ ∃ p : Regrown, w'' = grow (redrawn w1 p.d) p.os := fun d os => Calls.regrown_of ((section_any sa _ (by omega) _ H1.out).mono fun _ _ ⟨a, b⟩ => ⟨a, b ▸ Below.refl _ _⟩)
    have cK : ∀ d os, Calls Tryd.prog 43 #[.string ka] (grow (redrawn w1 d) os) fun e w'' => e = .returned (.bool true) ∧ ∃ p : Regrown, w'' = grow (redrawn w1 p.d) p.os := fun d os => Calls.regrown_of (key_any ka _ (by omega) _ H2.out)
    have cG : ∀ d os, Calls Tryd.prog 38 #[.string va] (grow (redrawn w1 d) os) fun e w'' => e = .returned (.bool true) ∧ ∃ p : Regrown, w'' = grow (redrawn w1 p.d) p.os := fun d os => Calls.regrown_of ((good_any va _ (by omega) _ H3.out).mono fun _ _ ⟨a, b⟩ => ⟨a, b ▸ Below.refl _ _⟩)
    have cT : ∀ d os, Calls Tryd.prog 22 #[.string va] (grow (redrawn w1 d) os) fun e w'' => e = .returned (.string y) ∧ ∃ p : Regrown, w'' = grow (redrawn w1 p.d) p.os := fun d os => Calls.regrown_of ((trim_any va _ (by omega) _ HTv.out).mono fun _ _ ⟨a, b⟩ => ⟨by rw [a, HY.out], b⟩)
    have cH : ∀ d os, Calls Tryd.prog 50 #[.string va, .string ⟨#[92]⟩] (grow (redrawn w1 d) os) fun e w'' => e = .returned (.bool false) ∧ ∃ p : Regrown, w'' = grow (redrawn w1 p.d) p.os := fun d os => Calls.regrown_of ((hasBack va _ (by omega) _ H5.out).mono fun _ _ ⟨a, b⟩ => ⟨a, b ▸ Below.refl _ _⟩)
    refine wp_region_quiet_below (by kernel_rfl) (by kernel_rfl) ?_
    repeat (go_big_quiet_step (first | exact cS _ _ | exact cK _ _ | exact cG _ _ | exact cT _ _ | exact cH _ _))
    refine wpQuiet_nil ?_
    intro _ hw'
    obtain ⟨⟨dq, osq⟩, hw''⟩ := hw'
    subst hw''
    go_wp2_with fail
    go_ret
    exact ⟨ret_bool (by rw [← H6.out, decide_eq_decide]; omega), may_end HRn.out hB (below_regrown w1 dq osq)⟩
end Go.Proofs.YtbgjpglnikbflaaDoor
