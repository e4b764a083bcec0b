import Derived.Test.YtdjkedcpehhmnaaGreatDoorUS15
import Derived.Test.YtdjkedcpehhmnaaGreatDoorUS21
import Derived.Test.YtdjkedcpehhmnaaGreatDoorUS22
import Derived.Test.YtdjkedcpehhmnaaGreatDoorUS29
namespace Go.Proofs.YtdjkedcpehhmnaaGreatDoor
open Go Go.RowKit
set_option linter.unusedVariables false
set_option linter.unusedSimpArgs false
set_option maxRecDepth 100000
abbrev yesS : List Str := [[121, 101, 115], [116, 114, 117, 101], [49], [110, 111], [102, 97, 108, 115, 101], [48]]
def numB (x : Str) : Bool := (numK x).2
def rightS (form : Int) (ws : List Str) (v : Str) : Bool :=
 if form = 1 then true
 else if form = 2 then yesS.contains v
 else if form = 3 then numB v
 else if form = 11 then eachB numB (blanksS v)
 else if form = 4 then (spanS v).2
 else if form = 9 then (calS v).isSome
 else if form = 5 then unitB v
 else if form = 6 then eachB unitB (blanksS v)
 else if form = 7 then (execS v).isSome
 else if form = 8 then (envS v).2
 else if form = 10 then ws.contains v
 else false
theorem strRow_new (w : World) (l : List Str) : StrRow (w.alloc (.cells (strVals l).toArray 9)) (some ⟨w.heap.size, 0, none⟩) l := splitStr_row w l
set_option maxHeartbeats 2000000 in
theorem right_text (kv : KeyV) (v : Str) (w : World) (hf : kv.form = 1) :
  Calls Tryz.prog 128 #[.agg (encK kv).toArray, .string ⟨v.toArray⟩] w fun e w' => e = .returned (.bool true) ∧ Below w.heap.size w w' := by
 obtain ⟨sec, name, form, list, kinds, wa, wn, wc⟩ := kv
 unfold encK
 simp only at *
 subst hf
 have hvz : (⟨v.toArray⟩ : ByteArray).size = v.length := by simp [ByteArray.size]
 have hB := (Below.refl w.heap.size w).alloc (Nat.le_refl _) (.cells #[.string ⟨sec.toArray⟩, .string ⟨name.toArray⟩, .int .i64 1, .bool list, .int .i64 kinds, .slice wa wn wc] 41)
 have HB := h_ hB
 clear hB
 go_enter Tryz.func128, Tryz.ntmps128
 go_wp2_with fail
 go_ret
 exact ⟨rfl, HB.out⟩
set_option maxHeartbeats 2000000 in
theorem right_num (kv : KeyV) (v : Str) (w : World) (hf : kv.form = 3) (hl : v.length ≤ 1000000000) (m : Bool) (hm : numB v = m) :
  Calls Tryz.prog 128 #[.agg (encK kv).toArray, .string ⟨v.toArray⟩] w fun e w' => e = .returned (.bool m) ∧ Below w.heap.size w w' := by
 obtain ⟨sec, name, form, list, kinds, wa, wn, wc⟩ := kv
 unfold encK
 simp only at *
 subst hf
 have hvz : (⟨v.toArray⟩ : ByteArray).size = v.length := by simp [ByteArray.size]
 have hB := (Below.refl w.heap.size w).alloc (Nat.le_refl _) (.cells #[.string ⟨sec.toArray⟩, .string ⟨name.toArray⟩, .int .i64 3, .bool list, .int .i64 kinds, .slice wa wn wc] 41)
 have HB := h_ hB
 have H := h_ (keysnum_any ⟨v.toArray⟩ (w.alloc (.cells #[.string ⟨sec.toArray⟩, .string ⟨name.toArray⟩, .int .i64 3, .bool list, .int .i64 kinds, .slice wa wn wc] 41)) (by rw [hvz]; omega) m hm)
 clear hB hm
 go_enter Tryz.func128, Tryz.ntmps128
 go_wp2_with fail
 refine H.out.mono ?_
 rintro e w1 ⟨rfl, hb1⟩
 go_wp2_with fail
 go_ret
 exact ⟨rfl, HB.out.trans (hb1.mono HB.out.size)⟩
set_option maxHeartbeats 2000000 in
theorem right_span (kv : KeyV) (v : Str) (w : World) (hf : kv.form = 4) (hl : v.length ≤ 1000000000) (m : Bool) (hm : (spanS v).2 = m) :
  Calls Tryz.prog 128 #[.agg (encK kv).toArray, .string ⟨v.toArray⟩] w fun e w' => e = .returned (.bool m) ∧ Below w.heap.size w w' := by
 obtain ⟨sec, name, form, list, kinds, wa, wn, wc⟩ := kv
 unfold encK
 simp only at *
 subst hf
 have hvz : (⟨v.toArray⟩ : ByteArray).size = v.length := by simp [ByteArray.size]
 have hB := (Below.refl w.heap.size w).alloc (Nat.le_refl _) (.cells #[.string ⟨sec.toArray⟩, .string ⟨name.toArray⟩, .int .i64 4, .bool list, .int .i64 kinds, .slice wa wn wc] 41)
 have HB := h_ hB
 obtain ⟨n, b, hv⟩ : ∃ n b, spanS v = (n, b) := ⟨_, _, rfl⟩
 obtain rfl : b = m := by rw [hv] at hm; exact hm
 have H := h_ (spanParse_any ⟨v.toArray⟩ (w.alloc (.cells #[.string ⟨sec.toArray⟩, .string ⟨name.toArray⟩, .int .i64 4, .bool list, .int .i64 kinds, .slice wa wn wc] 41)) (by rw [hvz]; omega) n b hv)
 clear hB hm hv
 go_enter Tryz.func128, Tryz.ntmps128
 go_wp2_with fail
 refine H.out.mono ?_
 rintro e w1 ⟨rfl, hb1⟩
 go_wp2_with fail
 go_ret
 exact ⟨rfl, HB.out.trans (hb1.mono HB.out.size)⟩
set_option maxHeartbeats 2000000 in
theorem right_name (kv : KeyV) (v : Str) (w : World) (hf : kv.form = 5) (hl : v.length ≤ 1000000000) (hM : MaxAt w) (m : Bool) (hm : unitB v = m) :
  Calls Tryz.prog 128 #[.agg (encK kv).toArray, .string ⟨v.toArray⟩] w fun e w' => e = .returned (.bool m) ∧ Below w.heap.size w w' := by
 obtain ⟨sec, name, form, list, kinds, wa, wn, wc⟩ := kv
 unfold encK
 simp only at *
 subst hf
 have hvz : (⟨v.toArray⟩ : ByteArray).size = v.length := by simp [ByteArray.size]
 have hB := (Below.refl w.heap.size w).alloc (Nat.le_refl _) (.cells #[.string ⟨sec.toArray⟩, .string ⟨name.toArray⟩, .int .i64 5, .bool list, .int .i64 kinds, .slice wa wn wc] 41)
 have HB := h_ hB
 have H := h_ (unit_any ⟨v.toArray⟩ (w.alloc (.cells #[.string ⟨sec.toArray⟩, .string ⟨name.toArray⟩, .int .i64 5, .bool list, .int .i64 kinds, .slice wa wn wc] 41)) (by rw [hvz]; omega) (hM.below hB) m hm)
 clear hB hm hM
 go_enter Tryz.func128, Tryz.ntmps128
 go_wp2_with fail
 refine H.out.mono ?_
 rintro e w1 ⟨rfl, hb1⟩
 go_wp2_with fail
 go_ret
 exact ⟨rfl, HB.out.trans (hb1.mono HB.out.size)⟩
set_option maxHeartbeats 2000000 in
theorem right_cal (kv : KeyV) (v : Str) (w : World) (hf : kv.form = 9) (hl : v.length ≤ 1000000000) (hM : MaxAt w) (m : Bool) (hm : (calS v).isSome = m) :
  Calls Tryz.prog 128 #[.agg (encK kv).toArray, .string ⟨v.toArray⟩] w fun e w' => e = .returned (.bool m) ∧ Below w.heap.size w w' := by
 obtain ⟨sec, name, form, list, kinds, wa, wn, wc⟩ := kv
 unfold encK
 simp only at *
 subst hf
 have hvz : (⟨v.toArray⟩ : ByteArray).size = v.length := by simp [ByteArray.size]
 have hB := (Below.refl w.heap.size w).alloc (Nat.le_refl _) (.cells #[.string ⟨sec.toArray⟩, .string ⟨name.toArray⟩, .int .i64 9, .bool list, .int .i64 kinds, .slice wa wn wc] 41)
 have HB := h_ hB
 have H := h_ (calParse_any v (w.alloc (.cells #[.string ⟨sec.toArray⟩, .string ⟨name.toArray⟩, .int .i64 9, .bool list, .int .i64 kinds, .slice wa wn wc] 41)) (by omega) (hM.below hB))
 unfold CalOut at H
 rw [hm] at H
 clear hB hm hM
 go_enter Tryz.func128, Tryz.ntmps128
 go_wp2_with fail
 refine H.out.mono ?_
 rintro e w1 ⟨cs, rfl, -, -, hb1⟩
 go_wp2_with fail
 go_ret
 exact ⟨rfl, HB.out.trans (hb1.mono HB.out.size)⟩
set_option maxHeartbeats 2000000 in
theorem right_env (kv : KeyV) (v : Str) (w : World) (hf : kv.form = 8) (hl : v.length ≤ 1000000000) (hM : MaxAt w) (m : Bool) (hm : (envS v).2 = m) :
  Calls Tryz.prog 128 #[.agg (encK kv).toArray, .string ⟨v.toArray⟩] w fun e w' => e = .returned (.bool m) ∧ Below w.heap.size w w' := by
 obtain ⟨sec, name, form, list, kinds, wa, wn, wc⟩ := kv
 unfold encK
 simp only at *
 subst hf
 have hvz : (⟨v.toArray⟩ : ByteArray).size = v.length := by simp [ByteArray.size]
 have hB := (Below.refl w.heap.size w).alloc (Nat.le_refl _) (.cells #[.string ⟨sec.toArray⟩, .string ⟨name.toArray⟩, .int .i64 8, .bool list, .int .i64 kinds, .slice wa wn wc] 41)
 have HB := h_ hB
 obtain ⟨ps, b, hv⟩ : ∃ ps b, envS v = (ps, b) := ⟨_, _, rfl⟩
 obtain rfl : b = m := by rw [hv] at hm; exact hm
 have H := h_ (env_any ⟨v.toArray⟩ (w.alloc (.cells #[.string ⟨sec.toArray⟩, .string ⟨name.toArray⟩, .int .i64 8, .bool list, .int .i64 kinds, .slice wa wn wc] 41)) (by rw [hvz]; omega) (hM.below hB) ps b hv)
 clear hB hm hv hM
 go_enter Tryz.func128, Tryz.ntmps128
 go_wp2_with fail
 refine H.out.mono ?_
 rintro e w1 ⟨hb1, u, rfl, hown⟩
 obtain ⟨oa, cap, rfl⟩ := ownsRow_form hown
 go_wp2_with fail
 go_ret
 exact ⟨rfl, HB.out.trans (hb1.mono HB.out.size)⟩
set_option maxHeartbeats 2000000 in
theorem right_exec (kv : KeyV) (v : Str) (w : World) (hf : kv.form = 7) (hl : v.length ≤ 1000000000) (m : Bool) (hm : (execS v).isSome = m) :
  Calls Tryz.prog 128 #[.agg (encK kv).toArray, .string ⟨v.toArray⟩] w fun e w' => e = .returned (.bool m) ∧ Below w.heap.size w w' := by
 obtain ⟨sec, name, form, list, kinds, wa, wn, wc⟩ := kv
 unfold encK
 simp only at *
 subst hf
 have hvz : (⟨v.toArray⟩ : ByteArray).size = v.length := by simp [ByteArray.size]
 have hB := (Below.refl w.heap.size w).alloc (Nat.le_refl _) (.cells #[.string ⟨sec.toArray⟩, .string ⟨name.toArray⟩, .int .i64 7, .bool list, .int .i64 kinds, .slice wa wn wc] 41)
 have HB := h_ hB
 have H := h_ (exec_any ⟨v.toArray⟩ (w.alloc (.cells #[.string ⟨sec.toArray⟩, .string ⟨name.toArray⟩, .int .i64 7, .bool list, .int .i64 kinds, .slice wa wn wc] 41)) (by rw [hvz]; omega))
 unfold ExecOut at H
 rw [show (⟨v.toArray⟩ : ByteArray).data.toList = v from rfl] at H
 clear hB
 cases hx : execS v with
 | none =>
  rw [hx] at H hm
  obtain rfl : false = m := hm
  simp only at H
  clear hx
  go_enter Tryz.func128, Tryz.ntmps128
  go_wp2_with fail
  refine H.out.mono ?_
  rintro e w1 ⟨hb1, rfl⟩
  go_wp2_with fail
  go_ret
  exact ⟨rfl, HB.out.trans (hb1.mono HB.out.size)⟩
 | some p =>
  obtain ⟨d, l⟩ := p
  rw [hx] at H hm
  obtain rfl : true = m := hm
  simp only at H
  clear hx
  go_enter Tryz.func128, Tryz.ntmps128
  go_wp2_with fail
  refine H.out.mono ?_
  rintro e w1 ⟨hb1, wa2, wc2, rfl, -⟩
  go_wp2_with fail
  go_ret
  exact ⟨rfl, HB.out.trans (hb1.mono HB.out.size)⟩
set_option maxHeartbeats 2000000 in
theorem right_bool (kv : KeyV) (v : Str) (w : World) (hf : kv.form = 2) (m : Bool) (hm : yesS.contains v = m) :
  Calls Tryz.prog 128 #[.agg (encK kv).toArray, .string ⟨v.toArray⟩] w fun e w' => e = .returned (.bool m) ∧ Below w.heap.size w w' := by
 obtain ⟨sec, name, form, list, kinds, wa, wn, wc⟩ := kv
 unfold encK
 simp only at *
 subst hf
 have hvz : (⟨v.toArray⟩ : ByteArray).size = v.length := by simp [ByteArray.size]
 have hB := (Below.refl w.heap.size w).alloc (Nat.le_refl _) (.cells #[.string ⟨sec.toArray⟩, .string ⟨name.toArray⟩, .int .i64 2, .bool list, .int .i64 kinds, .slice wa wn wc] 41)
 have HB := h_ hB
 have H := h_ (show Calls Tryz.prog 164 #[.slice (some ⟨w.heap.size + 1, 0, none⟩) 6 6, .string ⟨v.toArray⟩] ((w.alloc (.cells #[.string ⟨sec.toArray⟩, .string ⟨name.toArray⟩, .int .i64 2, .bool list, .int .i64 kinds, .slice wa wn wc] 41)).alloc (.cells #[.string ⟨#[121, 101, 115]⟩, .string ⟨#[116, 114, 117, 101]⟩, .string ⟨#[49]⟩, .string ⟨#[110, 111]⟩, .string ⟨#[102, 97, 108, 115, 101]⟩, .string ⟨#[48]⟩] 9)) fun e w' => e = .returned (.bool m) ∧ w' = ((w.alloc (.cells #[.string ⟨sec.toArray⟩, .string ⟨name.toArray⟩, .int .i64 2, .bool list, .int .i64 kinds, .slice wa wn wc] 41)).alloc (.cells #[.string ⟨#[121, 101, 115]⟩, .string ⟨#[116, 114, 117, 101]⟩, .string ⟨#[49]⟩, .string ⟨#[110, 111]⟩, .string ⟨#[102, 97, 108, 115, 101]⟩, .string ⟨#[48]⟩] 9)) from by
  have := hasS_any (some ⟨(w.alloc (.cells #[.string ⟨sec.toArray⟩, .string ⟨name.toArray⟩, .int .i64 2, .bool list, .int .i64 kinds, .slice wa wn wc] 41)).heap.size, 0, none⟩) 6 yesS v ((w.alloc (.cells #[.string ⟨sec.toArray⟩, .string ⟨name.toArray⟩, .int .i64 2, .bool list, .int .i64 kinds, .slice wa wn wc] 41)).alloc (.cells (strVals yesS).toArray 9)) (by decide) (strRow_new (w.alloc (.cells #[.string ⟨sec.toArray⟩, .string ⟨name.toArray⟩, .int .i64 2, .bool list, .int .i64 kinds, .slice wa wn wc] 41)) yesS)
  rw [hm, show (w.alloc (.cells #[.string ⟨sec.toArray⟩, .string ⟨name.toArray⟩, .int .i64 2, .bool list, .int .i64 kinds, .slice wa wn wc] 41)).heap.size = w.heap.size + 1 by simp] at this
  exact this)
 have HB2 := h_ ((Below.refl (w.alloc (.cells #[.string ⟨sec.toArray⟩, .string ⟨name.toArray⟩, .int .i64 2, .bool list, .int .i64 kinds, .slice wa wn wc] 41)).heap.size (w.alloc (.cells #[.string ⟨sec.toArray⟩, .string ⟨name.toArray⟩, .int .i64 2, .bool list, .int .i64 kinds, .slice wa wn wc] 41))).alloc (Nat.le_refl _) (.cells #[.string ⟨#[121, 101, 115]⟩, .string ⟨#[116, 114, 117, 101]⟩, .string ⟨#[49]⟩, .string ⟨#[110, 111]⟩, .string ⟨#[102, 97, 108, 115, 101]⟩, .string ⟨#[48]⟩] 9))
 clear hB hm
 go_enter Tryz.func128, Tryz.ntmps128
 go_wp2_with fail
 refine H.out.mono ?_
 rintro e w1 ⟨rfl, rfl⟩
 go_wp2_with fail
 go_ret
 exact ⟨rfl, HB.out.trans (HB2.out.mono HB.out.size)⟩
set_option maxHeartbeats 2000000 in
theorem right_ints (kv : KeyV) (v : Str) (w : World) (hf : kv.form = 11) (hl : v.length < 4294967281) (hM : MaxAt w) (m : Bool) (hm : eachB numB (blanksS v) = m) :
  Calls Tryz.prog 128 #[.agg (encK kv).toArray, .string ⟨v.toArray⟩] w fun e w' => e = .returned (.bool m) ∧ Below w.heap.size w w' := by
 obtain ⟨sec, name, form, list, kinds, wa, wn, wc⟩ := kv
 unfold encK
 simp only at *
 subst hf
 have hvz : (⟨v.toArray⟩ : ByteArray).size = v.length := by simp [ByteArray.size]
 have hB := (Below.refl w.heap.size w).alloc (Nat.le_refl _) (.cells #[.string ⟨sec.toArray⟩, .string ⟨name.toArray⟩, .int .i64 11, .bool list, .int .i64 kinds, .slice wa wn wc] 41)
 have HB := h_ hB
 have HW := h_ (charsWords_any ⟨v.toArray⟩ (w.alloc (.cells #[.string ⟨sec.toArray⟩, .string ⟨name.toArray⟩, .int .i64 11, .bool list, .int .i64 kinds, .slice wa wn wc] 41)) (by rw [hvz]; omega))
 have hln := blanksS_len v []
 have hmem := fldS_mem v.length v [] (by simp)
 have HE := h_ (fun (A : Nat) (W : World) (hA : A < W.heap.size) (h1 : MaxAt W) (h2 : StrAt W A 0 (blanksS v)) =>
  each_any 165 enters_keysnum numB A 0 (blanksS v).length (blanksS v) W hA (by unfold blanksS; omega) h1 (fun W2 j hj hM2 => keysnum_any _ W2 (by
   have : (blanksS v)[j].length ≤ v.length := hmem _ (List.getElem_mem hj)
   show (blanksS v)[j].toArray.size ≤ _
   simp; omega) _ rfl) h2 m hm)
 have HM := h_ (hM.below hB)
 clear hln hmem hB hM hl hm hvz
 go_enter Tryz.func128, Tryz.ntmps128
 go_wp2_with fail
 refine HW.out.mono ?_
 rintro e w1 ⟨A, rfl, hA, hA2, hs, hb1⟩
 have hh := HE.out A w1 hA2 (HM.out.below hb1) hs
 have HH := h_ hh
 have HB1 := h_ (HB.out.trans (hb1.mono HB.out.size))
 clear hA hA2 hs hb1 hh HE HW HM HB
 simp only
 generalize (blanksS v).length = n at *
 go_wp2_with fail
 refine HH.out.mono ?_
 rintro e w2 ⟨rfl, hb2⟩
 have HB2 := h_ (HB1.out.trans (hb2.mono HB1.out.size))
 clear hb2
 go_wp2_with fail
 go_ret
 exact ⟨rfl, HB2.out⟩
set_option maxHeartbeats 2000000 in
theorem right_else (kv : KeyV) (v : Str) (w : World) (h1 : ¬ kv.form = 1) (h2 : ¬ kv.form = 2) (h3 : ¬ kv.form = 3) (h11 : ¬ kv.form = 11) (h4 : ¬ kv.form = 4) (h9 : ¬ kv.form = 9) (h5 : ¬ kv.form = 5) (h6 : ¬ kv.form = 6) (h7 : ¬ kv.form = 7) (h8 : ¬ kv.form = 8) (h10 : ¬ kv.form = 10) :
  Calls Tryz.prog 128 #[.agg (encK kv).toArray, .string ⟨v.toArray⟩] w fun e w' => e = .returned (.bool false) ∧ Below w.heap.size w w' := by
 obtain ⟨sec, name, form, list, kinds, wa, wn, wc⟩ := kv
 unfold encK
 simp only at *
 have HB := h_ ((Below.refl w.heap.size w).alloc (Nat.le_refl _) (.cells #[.string ⟨sec.toArray⟩, .string ⟨name.toArray⟩, .int .i64 form, .bool list, .int .i64 kinds, .slice wa wn wc] 41))
 go_enter Tryz.func128, Tryz.ntmps128
 go_wp2_with fail
 go_ret
 exact ⟨rfl, HB.out⟩
theorem right_any (kv : KeyV) (ws : List Str) (v : Str) (w : World) (hn : kv.wn = ws.length) (hl : ws.length ≤ 4294967296) (hw : StrRow w kv.wa ws) (hv : v.length ≤ 1000000000) (hM : MaxAt w) :
  Calls Tryz.prog 128 #[.agg (encK kv).toArray, .string ⟨v.toArray⟩] w fun e w' => e = .returned (.bool (rightS kv.form ws v)) ∧ Below w.heap.size w w' := by
 unfold rightS
 by_cases h1 : kv.form = 1
 ·rw [if_pos h1]; exact right_text kv v w h1
 rw [if_neg h1]
 by_cases h2 : kv.form = 2
 ·rw [if_pos h2]; exact right_bool kv v w h2 _ rfl
 rw [if_neg h2]
 by_cases h3 : kv.form = 3
 ·rw [if_pos h3]; exact right_num kv v w h3 hv _ rfl
 rw [if_neg h3]
 by_cases h11 : kv.form = 11
 ·rw [if_pos h11]; exact right_ints kv v w h11 (by omega) hM _ rfl
 rw [if_neg h11]
 by_cases h4 : kv.form = 4
 ·rw [if_pos h4]; exact right_span kv v w h4 hv _ rfl
 rw [if_neg h4]
 by_cases h9 : kv.form = 9
 ·rw [if_pos h9]; exact right_cal kv v w h9 hv hM _ rfl
 rw [if_neg h9]
 by_cases h5 : kv.form = 5
 ·rw [if_pos h5]; exact right_name kv v w h5 hv hM _ rfl
 rw [if_neg h5]
 by_cases h6 : kv.form = 6
 ·rw [if_pos h6]; exact right_names kv v w h6 (by omega) hM _ rfl
 rw [if_neg h6]
 by_cases h7 : kv.form = 7
 ·rw [if_pos h7]; exact right_exec kv v w h7 hv _ rfl
 rw [if_neg h7]
 by_cases h8 : kv.form = 8
 ·rw [if_pos h8]; exact right_env kv v w h8 hv hM _ rfl
 rw [if_neg h8]
 by_cases h10 : kv.form = 10
 ·rw [if_pos h10]; exact right_word kv ws v w h10 hn hl hw _ rfl
 rw [if_neg h10]
 exact right_else kv v w h1 h2 h3 h11 h4 h9 h5 h6 h7 h8 h10
def valS (v : Str) (k : KeyS) : Int := valE k.form k.list v (rightS k.form k.words v)
def lnS (kind : Int) (x : Ln) : Int := lineE (valS x.val) kind x.sec x.key
theorem value_key (k : KeyS) (kv : KeyV) (v : Str) (w : World) (hk : KvRd w kv k) (hw : k.words.length ≤ 4294967296) (hl : v.length ≤ 1000000000) (hM : MaxAt w) :
  Calls Tryz.prog 82 #[.agg (encK kv).toArray, .string ⟨v.toArray⟩] w fun e w' => e = .returned (.int .i64 (valS v k)) ∧ Below w.heap.size w w' := by
 refine value_any kv v w (rightS k.form k.words v) (fun W hW => ?_) _ (by unfold valS; rw [hk.form, hk.list])
 have := right_any kv k.words v W hk.wl hw (hk.row.below hW) hl (hM.below hW)
 rw [hk.form] at this
 exact this
theorem words_few0 : (allKeys.all fun k => decide (k.words.length ≤ 100)) = true := by kernel_rfl
theorem words_few : ∀ k ∈ allKeys, k.words.length ≤ 100 := fun k hk => of_decide_eq_true (List.all_eq_true.1 words_few0 k hk)
theorem find_mem (sec name : Str) (k : KeyS) (h : findKey sec name = some k) : k ∈ allKeys := by
 unfold findKey at h
 exact List.mem_of_find?_eq_some h
theorem line_key (kind : Int) (x : Ln) (w : World) (hM : MaxAt w) (hl : x.val.length ≤ 1000000000) :
  Calls Tryz.prog 50 #[.int .i64 kind, .agg (encLn x).toArray] w fun e w' => e = .returned (.int .i64 (lnS kind x)) ∧ Below w.heap.size w w' :=
 line_any (valS x.val) kind x.sec x.key x.val x.at_ w hM (fun k kv W hk hkv hM2 => value_key k kv x.val W hkv (Nat.le_trans (words_few k (find_mem _ _ k hk)) (by decide)) hl hM2) _ rfl
end Go.Proofs.YtdjkedcpehhmnaaGreatDoor
