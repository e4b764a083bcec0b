import Derived.Test.YtdjkedcpehhmnaaGreatDoorUS10
import Derived.Test.YtdjkedcpehhmnaaGreatDoorUS18
import Derived.Test.YtdjkedcpehhmnaaGreatDoorUS19
namespace Go.Proofs.YtdjkedcpehhmnaaGreatDoor
open Go Go.RowKit
set_option linter.unusedVariables false
set_option maxRecDepth 100000
theorem may_any (s : ByteArray) (w : World) (hs : s.size < 4294967281) (hm : MaxAt w) (b : Bool) (hb : decide (kindS s.data.toList ≠ 0) = b) :
  Calls Tryz.prog 32 #[.string s] w fun e w' => e = .returned (.bool b) ∧ Below w.heap.size w w' := by
 have HC := h_ (kind_any s w hs hm _ rfl)
 have hb' : ((kindS s.data.toList : Int) != 0) = b := by
  rw [← hb]
  by_cases h : kindS s.data.toList = 0
  ·rw [h]; rfl
  ·have : ((kindS s.data.toList : Int) == 0) = false := by rw [beq_eq_false_iff_ne]; omega
   simp [bne, this, h]
 generalize kindS s.data.toList = n at HC hb'
 clear hb
 go_enter Tryz.func32, Tryz.ntmps32
 go_wp2_with (refine HC.out.mono ?_; rintro e w' ⟨rfl, hb1⟩)
 go_ret
 exact ⟨rfl, hb1⟩
set_option linter.unusedSimpArgs false
def partsS (s : Str) : Str × Str × Bool := if kindS s = 0 then ([], [], false) else cutAt (cutPt s).1
def bareS (s : Str) : Bool := (partsS s).2.2 && (partsS s).2.1.isEmpty
def unitB (s : Str) : Bool := decide (kindS s ≠ 0) && !bareS s
set_option maxHeartbeats 1000000 in
theorem parts_any (s : ByteArray) (w : World) (hs : s.size < 4294967281) (hm : MaxAt w) (p i : Str) (f : Bool) (hp : partsS s.data.toList = (p, i, f)) :
  Calls Tryz.prog 49 #[.string s] w fun e w' => e = .returned (.tuple #[.string ⟨p.toArray⟩, .string ⟨i.toArray⟩, .bool f]) ∧ Below w.heap.size w w' := by
 obtain ⟨a, b, hab⟩ : ∃ a b, cutPt s.data.toList = (a, b) := ⟨_, _, rfl⟩
 have hl : s.data.toList.length = s.size := by simp
 have hal : a.length ≤ s.size := by have := (cutPt_len s.data.toList).1; rw [hab, hl] at this; exact this
 unfold partsS at hp
 rw [hab] at hp
 have HM := h_ hm
 have HC1 := h_ (fun W => cut_any s W (by omega) a b hab)
 have HC2 := h_ (fun W (h : MaxAt W) q j g hq => cutAt_any ⟨a.toArray⟩ W (by show a.toArray.size < _; simp; omega) h q j g hq)
 clear hm
 by_cases h0 : kindS s.data.toList = 0
 ·rw [if_pos h0] at hp
  obtain ⟨rfl, rfl, rfl⟩ : p = [] ∧ i = [] ∧ f = false := by simpa using hp
  have HMY := h_ (fun W h => may_any s W hs h false (by simp [h0]))
  clear hp h0
  go_enter Tryz.func49, Tryz.ntmps49
  go_wp2_with fail
  refine (HMY.out w HM.out).mono ?_
  rintro e w1 ⟨rfl, hb1⟩
  have HB1 := h_ hb1
  clear hb1
  go_wp2_with fail
  refine bodyPost_ret (v := .tuple #[.string ⟨([] : Str).toArray⟩, .string ⟨([] : Str).toArray⟩, .bool false]) ?_ rfl ⟨rfl, HB1.out⟩
  simp [results, Tryz.results49, go_sem]
 ·rw [if_neg h0] at hp
  have HMY := h_ (fun W h => may_any s W hs h true (by simp [h0]))
  have HP := h_ hp
  clear hp h0
  go_enter Tryz.func49, Tryz.ntmps49
  go_wp2_with fail
  refine (HMY.out w HM.out).mono ?_
  rintro e w1 ⟨rfl, hb1⟩
  have HB1 := h_ hb1
  clear hb1
  go_wp2_with fail
  refine (HC1.out w1).mono ?_
  rintro e w2 ⟨rfl, n2, rfl⟩
  have HB2 := h_ (HB1.out.trans (show Below w.heap.size w1 (w1.drewN n2) from below_dn ⟨_, rfl⟩))
  generalize w1.drewN n2 = w2 at *
  go_wp2_with fail
  refine (HC2.out w2 (HM.out.below HB2.out) p i f HP.out).mono ?_
  rintro e w3 ⟨rfl, n3, rfl⟩
  have HB3 := h_ (HB2.out.trans (show Below w.heap.size w2 (w2.drewN n3) from below_dn ⟨_, rfl⟩))
  generalize w2.drewN n3 = w3 at *
  go_wp2_with fail
  refine bodyPost_ret (v := .tuple #[.string ⟨p.toArray⟩, .string ⟨i.toArray⟩, .bool f]) ?_ rfl ⟨rfl, HB3.out⟩
  simp [results, Tryz.results49, go_sem]
theorem bare_any (s : ByteArray) (w : World) (hs : s.size < 4294967281) (hm : MaxAt w) (r : Bool) (hr : bareS s.data.toList = r) :
  Calls Tryz.prog 22 #[.string s] w fun e w' => e = .returned (.bool r) ∧ Below w.heap.size w w' := by
 obtain ⟨p, i, f, hp⟩ : ∃ p i f, partsS s.data.toList = (p, i, f) := ⟨_, _, _, rfl⟩
 have HP := h_ (parts_any s w hs hm p i f hp)
 unfold bareS at hr
 rw [hp] at hr
 simp only at hr
 clear hp hm
 cases f with
 | false =>
  have HR := h_ (show r = false by rw [← hr]; rfl)
  clear hr
  go_enter Tryz.func22, Tryz.ntmps22
  go_wp2_with fail
  refine HP.out.mono ?_
  rintro e w1 ⟨rfl, hb1⟩
  have HB1 := h_ hb1
  clear hb1
  go_wp2_with fail
  go_ret
  exact ⟨by rw [HR.out]; rfl, HB1.out⟩
 | true =>
  have HR := h_ (show r = i.isEmpty by rw [← hr]; simp)
  clear hr
  go_enter Tryz.func22, Tryz.ntmps22
  go_wp2_with fail
  refine HP.out.mono ?_
  rintro e w1 ⟨rfl, hb1⟩
  have HB1 := h_ hb1
  clear hb1
  cases hi : i.isEmpty with
  | true =>
   go_wp2_with fail
   go_ret
   exact ⟨by rw [HR.out, hi]; rfl, HB1.out⟩
  | false =>
   go_wp2_with fail
   go_ret
   exact ⟨by rw [HR.out, hi]; rfl, HB1.out⟩
theorem unit_any (s : ByteArray) (w : World) (hs : s.size < 4294967281) (hm : MaxAt w) (r : Bool) (hr : unitB s.data.toList = r) :
  Calls Tryz.prog 168 #[.string s] w fun e w' => e = .returned (.bool r) ∧ Below w.heap.size w w' := by
 have HM := h_ hm
 obtain ⟨m, hmm⟩ : ∃ m, decide (kindS s.data.toList ≠ 0) = m := ⟨_, rfl⟩
 obtain ⟨b, hb⟩ : ∃ b, bareS s.data.toList = b := ⟨_, rfl⟩
 unfold unitB at hr
 rw [hmm, hb] at hr
 have HMY := h_ (may_any s w hs hm m hmm)
 have HBR := h_ (fun W h => bare_any s W hs h b hb)
 clear hm hmm hb
 cases m with
 | false =>
  have HR := h_ (show r = false by rw [← hr]; rfl)
  clear hr
  go_enter Tryz.func168, Tryz.ntmps168
  go_wp2_with fail
  refine HMY.out.mono ?_
  rintro e w1 ⟨rfl, hb1⟩
  have HB1 := h_ hb1
  clear hb1
  go_wp2_with fail
  go_ret
  exact ⟨by rw [HR.out]; rfl, HB1.out⟩
 | true =>
  have HR := h_ (show r = !b by rw [← hr]; simp)
  clear hr
  go_enter Tryz.func168, Tryz.ntmps168
  go_wp2_with fail
  refine HMY.out.mono ?_
  rintro e w1 ⟨rfl, hb1⟩
  have HB1 := h_ hb1
  clear hb1
  go_wp2_with fail
  refine (HBR.out w1 (HM.out.below HB1.out)).mono ?_
  rintro e w2 ⟨rfl, hb2⟩
  have HB2 := h_ (HB1.out.trans (hb2.mono HB1.out.size))
  clear hb2
  go_wp2_with fail
  go_ret
  exact ⟨by rw [HR.out]; rfl, HB2.out⟩
def valE (form : Int) (list : Bool) (v : Str) (m : Bool) : Int :=
 if form < 1 ∨ 11 < form then 3 else if v = [] ∧ (list = true ∨ form = 1) then 0 else if v = [] ∨ m = false then 12 else 0
set_option maxHeartbeats 2000000 in
theorem value_any (kv : KeyV) (v : Str) (w : World) (m : Bool) (hr : ∀ W, Below w.heap.size w W → Calls Tryz.prog 128 #[.agg (encK kv).toArray, .string ⟨v.toArray⟩] W fun e w' => e = .returned (.bool m) ∧ Below W.heap.size W w') (r : Int) (hv : valE kv.form kv.list v m = r) :
  Calls Tryz.prog 82 #[.agg (encK kv).toArray, .string ⟨v.toArray⟩] w fun e w' => e = .returned (.int .i64 r) ∧ Below w.heap.size w w' := by
 unfold encK at *
 obtain ⟨sec, name, form, list, kinds, wa, wn, wc⟩ := kv
 unfold valE at hv
 simp only at *
 have HR := h_ hr; clear hr
 by_cases h1 : form < 1
 ·rw [if_pos (.inl h1)] at hv
  subst hv
  go_enter Tryz.func82, Tryz.ntmps82
  go_wp2_with fail
  go_ret
  exact ⟨rfl, (Below.refl _ _).alloc (Nat.le_refl _) _⟩
 by_cases h2 : 11 < form
 ·rw [if_pos (.inr h2)] at hv
  subst hv
  go_enter Tryz.func82, Tryz.ntmps82
  go_wp2_with fail
  go_ret
  exact ⟨rfl, (Below.refl _ _).alloc (Nat.le_refl _) _⟩
 rw [if_neg (by omega)] at hv
 cases v with
 | nil =>
  cases list with
  | true =>
   rw [if_pos (by simp)] at hv
   subst hv
   go_enter Tryz.func82, Tryz.ntmps82
   go_wp2_with fail
   go_ret
   exact ⟨rfl, (Below.refl _ _).alloc (Nat.le_refl _) _⟩
  | false =>
   by_cases h3 : form = 1
   ·subst h3
    rw [if_pos (by simp)] at hv
    subst hv
    clear h1 h2
    go_enter Tryz.func82, Tryz.ntmps82
    go_wp2_with fail
    go_ret
    exact ⟨rfl, (Below.refl _ _).alloc (Nat.le_refl _) _⟩
   ·rw [if_neg (by simp [h3]), if_pos (by simp)] at hv
    subst hv
    go_enter Tryz.func82, Tryz.ntmps82
    go_wp2_with fail
    go_ret
    exact ⟨rfl, (Below.refl _ _).alloc (Nat.le_refl _) _⟩
 | cons c t =>
  rw [if_neg (by simp)] at hv
  have hsz : (⟨(c :: t).toArray⟩ : ByteArray).size ≠ 0 := by simp [ByteArray.size]
  obtain ⟨n1, n2, n3, n4⟩ := str_ne hsz
  generalize (⟨(c :: t).toArray⟩ : ByteArray) = s at *
  cases m with
  | true =>
   rw [if_neg (by simp)] at hv
   subst hv
   go_enter Tryz.func82, Tryz.ntmps82
   go_wp2_with fail
   refine (HR.out _ ((Below.refl _ _).alloc (Nat.le_refl _) _)).mono ?_
   rintro e w1 ⟨rfl, hb1⟩
   have HB := h_ (((Below.refl w.heap.size w).alloc (Nat.le_refl _) (.cells #[.string ⟨sec.toArray⟩, .string ⟨name.toArray⟩, .int .i64 form, .bool list, .int .i64 kinds, .slice wa wn wc] 41)).trans (hb1.mono (by simp)))
   clear hb1
   go_wp2_with fail
   go_ret
   exact ⟨rfl, HB.out⟩
  | false =>
   rw [if_pos (by simp)] at hv
   subst hv
   go_enter Tryz.func82, Tryz.ntmps82
   go_wp2_with fail
   refine (HR.out _ ((Below.refl _ _).alloc (Nat.le_refl _) _)).mono ?_
   rintro e w1 ⟨rfl, hb1⟩
   have HB := h_ (((Below.refl w.heap.size w).alloc (Nat.le_refl _) (.cells #[.string ⟨sec.toArray⟩, .string ⟨name.toArray⟩, .int .i64 form, .bool list, .int .i64 kinds, .slice wa wn wc] 41)).trans (hb1.mono (by simp)))
   clear hb1
   go_wp2_with fail
   go_ret
   exact ⟨rfl, HB.out⟩
end Go.Proofs.YtdjkedcpehhmnaaGreatDoor
