/-
  slices.Contains at strings; keys.right at words and at names.
-/
import Derived.Test.YtdpnahojhmkemaaGreatDoorKeys8
namespace Go.Proofs.YtdpnahojhmkemaaGreatDoor
open Go Go.RowKit
set_option linter.unusedVariables false
set_option linter.unusedSimpArgs false
set_option maxRecDepth 100000

theorem containsS_same (l : List Str) (x : Str) : Lib.containsS (l.map fun s => (⟨s.toArray⟩ : ByteArray)) ⟨x.toArray⟩ = l.contains x := by
  rw [Bool.eq_iff_iff, Lib.containsS_iff, List.contains_iff_mem]
  constructor
  · intro h
    obtain ⟨y, hy, he⟩ := List.mem_map.1 h
    have : y = x := by
      have := congrArg (fun s : ByteArray => s.data.toList) he
      simpa using this
    rw [← this]; exact hy
  · intro h
    exact List.mem_map.2 ⟨x, h, rfl⟩

theorem hasS_any (oa : Option Addr) (cap : Nat) (l : List Str) (x : Str) (w : World) (hl : l.length ≤ 4294967296) (h : StrRow w oa l) :
    Calls Tryz.prog 44 #[.slice oa l.length cap, .string ⟨x.toArray⟩] w fun e w' => e = .returned (.bool (l.contains x)) ∧ w' = w := by
  cases l with
  | nil => exact Tryz.slices_Contains_string_empty oa cap _ w
  | cons a t =>
    obtain ⟨b, o, rfl, -⟩ := h 0 (by simp)
    have := Tryz.slices_Contains_string b o (a :: t).length cap ((a :: t).map fun s => (⟨s.toArray⟩ : ByteArray)) ⟨x.toArray⟩ w (by simp) (by omega) (fun j hj => by
      have hj' : j < (a :: t).length := by simpa using hj
      obtain ⟨b2, o2, e2, hc⟩ := h j hj'
      injection e2 with e2
      injection e2 with e3 e4 e5
      subst e3; subst e4
      rw [hc]
      congr 2
      rw [List.getD_eq_getElem?_getD, List.getElem?_map, List.getElem?_eq_getElem hj']
      rfl)
    rw [List.take_of_length_le (by simp), containsS_same] at this
    exact this

theorem enters_unit : ∀ args w, (callFunc 50 args).run Tryz.prog w = .ok (.enter 50 args) w := enters_of Tryz.func50 (by kernel_rfl) rfl

set_option maxHeartbeats 2000000 in
theorem right_word (kv : KeyV) (ws : List Str) (v : Str) (w : World) (hf : kv.form = 10) (hn : kv.wn = ws.length) (hl : ws.length ≤ 4294967296) (hw : StrRow w kv.wa ws) (m : Bool) (hm : ws.contains v = m) :
    Calls Tryz.prog 29 #[.agg (encK kv).toArray, .string ⟨v.toArray⟩] w fun e w' => e = .returned (.bool m) ∧ Below w.heap.size w w' := by
  obtain ⟨sec, name, form, list, kinds, wa, wn, wc⟩ := kv
  unfold encK
  simp only at *
  subst hf; subst hn
  have hB := (Below.refl w.heap.size w).alloc (Nat.le_refl _) (.cells #[.string ⟨sec.toArray⟩, .string ⟨name.toArray⟩, .int .i64 10, .bool list, .int .i64 kinds, .slice wa ws.length wc] 28)
  have H := Lib.hid (hasS_any wa wc ws v _ hl (hw.below hB))
  have HB := Lib.hid hB
  rw [hm] at H
  clear hw hm hB
  generalize ws.length = n at *
  go_enter Tryz.func29, Tryz.ntmps29
  go_wp2_with fail
  refine H.out.mono ?_
  rintro e w1 ⟨rfl, rfl⟩
  go_wp2_with fail
  go_ret
  exact ⟨rfl, HB.out⟩

theorem blanksS_len (v : Str) : ∀ cur, (fldS v cur).length ≤ v.length + 1 := by
  induction v with
  | nil => intro cur; unfold fldS; split <;> simp
  | cons c t ih =>
    intro cur
    unfold fldS
    split
    · split
      · have := ih []; simp; omega
      · have := ih []; simp; omega
    · have := ih (cur ++ [c]); simp; omega
theorem fldS_mem (n : Nat) : ∀ (v cur : Str), v.length + cur.length ≤ n → ∀ x ∈ fldS v cur, x.length ≤ n
  | [], cur, h, x, hx => by
    unfold fldS at hx
    split at hx
    · simp at hx
    · simp at hx; subst hx; simp at h; exact h
  | c :: t, cur, h, x, hx => by
    unfold fldS at hx
    simp at h
    split at hx
    · split at hx
      · exact fldS_mem n t [] (by simp; omega) x hx
      · rcases List.mem_cons.1 hx with rfl | hx
        · omega
        · exact fldS_mem n t [] (by simp; omega) x hx
    · exact fldS_mem n t (cur ++ [c]) (by simp; omega) x hx

set_option maxHeartbeats 2000000 in
theorem right_names (kv : KeyV) (v : Str) (w : World) (hf : kv.form = 6) (hl : v.length < 4294967281) (hM : MaxAt w) (m : Bool) (hm : eachB unitB (blanksS v) = m) :
    Calls Tryz.prog 29 #[.agg (encK kv).toArray, .string ⟨v.toArray⟩] w fun e w' => e = .returned (.bool m) ∧ Below w.heap.size w w' := by
  obtain ⟨sec, name, form, list, kinds, wa, wn, wc⟩ := kv
  unfold encK
  simp only at *
  subst hf
  have hB := (Below.refl w.heap.size w).alloc (Nat.le_refl _) (.cells #[.string ⟨sec.toArray⟩, .string ⟨name.toArray⟩, .int .i64 6, .bool list, .int .i64 kinds, .slice wa wn wc] 28)
  have HW := Lib.hid (charsWords_any ⟨v.toArray⟩ (w.alloc (.cells #[.string ⟨sec.toArray⟩, .string ⟨name.toArray⟩, .int .i64 6, .bool list, .int .i64 kinds, .slice wa wn wc] 28)) (by simp [ByteArray.size]; omega))
  have hln := blanksS_len v []
  have hmem := fldS_mem v.length v [] (by simp)
  have HE := Lib.hid (fun (A : Nat) (W : World) (hA : A < W.heap.size) (h1 : MaxAt W) (h2 : StrAt W A 0 (blanksS v)) =>
    each_any 50 enters_unit unitB A 0 (blanksS v).length (blanksS v) W hA (by unfold blanksS; omega) h1 (fun W2 j hj hM2 => unit_any _ W2 (by
      have : (blanksS v)[j].length ≤ v.length := hmem _ (List.getElem_mem hj)
      show (blanksS v)[j].toArray.size < _
      simp; omega) hM2 _ rfl) h2 m hm)
  have HB := Lib.hid hB
  have HM := Lib.hid (hM.below hB)
  clear hln hmem hB hM hl hm
  go_enter Tryz.func29, Tryz.ntmps29
  go_wp2_with fail
  refine HW.out.mono ?_
  rintro e w1 ⟨A, rfl, hA, hA2, hs, hb1⟩
  have hh := HE.out A w1 hA2 (HM.out.below hb1) hs
  have HH := Lib.hid hh
  have HB1 := Lib.hid (HB.out.trans (hb1.mono HB.out.size))
  clear hA hA2 hs hb1 hh HE HW HM HB
  simp only
  generalize (blanksS v).length = n at *
  go_wp2_with fail
  refine HH.out.mono ?_
  rintro e w2 ⟨rfl, hb2⟩
  have HB2 := Lib.hid (HB1.out.trans (hb2.mono HB1.out.size))
  clear hb2
  go_wp2_with fail
  go_ret
  exact ⟨rfl, HB2.out⟩
end Go.Proofs.YtdpnahojhmkemaaGreatDoor
