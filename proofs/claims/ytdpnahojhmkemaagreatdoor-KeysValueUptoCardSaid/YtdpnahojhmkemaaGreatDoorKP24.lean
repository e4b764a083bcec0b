import Derived.Test.YtdpnahojhmkemaaGreatDoorKP1
import Derived.Test.YtdpnahojhmkemaaGreatDoorKP16
import Derived.Test.YtdpnahojhmkemaaGreatDoorKP19
namespace Go.Proofs.YtdpnahojhmkemaaGreatDoor
open Go Go.RowKit
set_option linter.unusedVariables false
set_option maxRecDepth 100000
theorem may_any (s : ByteArray) (w : World) (hs : s.size < 4294967281) (hm : MaxAt w) (b : Bool) (hb : decide (kindS s.data.toList ≠ 0) = b) :
  Calls Tryz.prog 87 #[.string s] w fun e w' => e = .returned (.bool b) ∧ Below w.heap.size w w' := by
 have HC := Lib.hid (kind_any s w hs hm _ rfl)
 have hb' : ((kindS s.data.toList : Int) != 0) = b := by
  rw [← hb]
  by_cases h : kindS s.data.toList = 0
  ·rw [h]; rfl
  ·have : ((kindS s.data.toList : Int) == 0) = false := by rw [beq_eq_false_iff_ne]; omega
   simp [bne, this, h]
 generalize kindS s.data.toList = n at HC hb'
 clear hb
 go_enter Tryz.func87, Tryz.ntmps87
 go_wp2_with (refine HC.out.mono ?_; rintro e w' ⟨rfl, hb1⟩)
 go_ret
 exact ⟨rfl, hb1⟩
end Go.Proofs.YtdpnahojhmkemaaGreatDoor
namespace Go.Proofs.YtdpnahojhmkemaaGreatDoor
open Go Go.RowKit
set_option linter.unusedVariables false
set_option linter.unusedSimpArgs false
set_option maxRecDepth 100000
def partsS (s : Str) : Str × Str × Bool := if kindS s = 0 then ([], [], false) else cutAt (cutPt s).1
def bareS (s : Str) : Bool := (partsS s).2.2 && (partsS s).2.1.isEmpty
def unitB (s : Str) : Bool := decide (kindS s ≠ 0) && !bareS s
set_option maxHeartbeats 1000000 in
theorem parts_any (s : ByteArray) (w : World) (hs : s.size < 4294967281) (hm : MaxAt w) (p i : Str) (f : Bool) (hp : partsS s.data.toList = (p, i, f)) :
  Calls Tryz.prog 117 #[.string s] w fun e w' => e = .returned (.tuple #[.string ⟨p.toArray⟩, .string ⟨i.toArray⟩, .bool f]) ∧ Below w.heap.size w w' := by
 obtain ⟨a, b, hab⟩ : ∃ a b, cutPt s.data.toList = (a, b) := ⟨_, _, rfl⟩
 have hl : s.data.toList.length = s.size := by simp
 have hal : a.length ≤ s.size := by have := (cutPt_len s.data.toList).1; rw [hab, hl] at this; exact this
 unfold partsS at hp
 rw [hab] at hp
 have HM := Lib.hid hm
 have HC1 := Lib.hid (fun W => cut_any s W (by omega) a b hab)
 have HC2 := Lib.hid (fun W (h : MaxAt W) q j g hq => cutAt_any ⟨a.toArray⟩ W (by show a.toArray.size < _; simp; omega) h q j g hq)
 clear hm
 by_cases h0 : kindS s.data.toList = 0
 ·rw [if_pos h0] at hp
  obtain ⟨rfl, rfl, rfl⟩ : p = [] ∧ i = [] ∧ f = false := by simpa using hp
  have HMY := Lib.hid (fun W h => may_any s W hs h false (by simp [h0]))
  clear hp h0
  go_enter Tryz.func117, Tryz.ntmps117
  go_wp2_with fail
  refine (HMY.out w HM.out).mono ?_
  rintro e w1 ⟨rfl, hb1⟩
  have HB1 := Lib.hid hb1
  clear hb1
  go_wp2_with fail
  refine bodyPost_ret (v := .tuple #[.string ⟨([] : Str).toArray⟩, .string ⟨([] : Str).toArray⟩, .bool false]) ?_ rfl ⟨rfl, HB1.out⟩
  simp [results, Tryz.results117, go_sem]
 ·rw [if_neg h0] at hp
  have HMY := Lib.hid (fun W h => may_any s W hs h true (by simp [h0]))
  have HP := Lib.hid hp
  clear hp h0
  go_enter Tryz.func117, Tryz.ntmps117
  go_wp2_with fail
  refine (HMY.out w HM.out).mono ?_
  rintro e w1 ⟨rfl, hb1⟩
  have HB1 := Lib.hid hb1
  clear hb1
  go_wp2_with fail
  refine (HC1.out w1).mono ?_
  rintro e w2 ⟨rfl, n2, rfl⟩
  have HB2 := Lib.hid (HB1.out.trans (show Below w.heap.size w1 (w1.drewN n2) from below_dn ⟨_, rfl⟩))
  generalize w1.drewN n2 = w2 at *
  go_wp2_with fail
  refine (HC2.out w2 (HM.out.below HB2.out) p i f HP.out).mono ?_
  rintro e w3 ⟨rfl, n3, rfl⟩
  have HB3 := Lib.hid (HB2.out.trans (show Below w.heap.size w2 (w2.drewN n3) from below_dn ⟨_, rfl⟩))
  generalize w2.drewN n3 = w3 at *
  go_wp2_with fail
  refine bodyPost_ret (v := .tuple #[.string ⟨p.toArray⟩, .string ⟨i.toArray⟩, .bool f]) ?_ rfl ⟨rfl, HB3.out⟩
  simp [results, Tryz.results117, go_sem]
theorem bare_any (s : ByteArray) (w : World) (hs : s.size < 4294967281) (hm : MaxAt w) (r : Bool) (hr : bareS s.data.toList = r) :
  Calls Tryz.prog 88 #[.string s] w fun e w' => e = .returned (.bool r) ∧ Below w.heap.size w w' := by
 obtain ⟨p, i, f, hp⟩ : ∃ p i f, partsS s.data.toList = (p, i, f) := ⟨_, _, _, rfl⟩
 have HP := Lib.hid (parts_any s w hs hm p i f hp)
 unfold bareS at hr
 rw [hp] at hr
 simp only at hr
 clear hp hm
 cases f with
 | false =>
  have HR := Lib.hid (show r = false by rw [← hr]; rfl)
  clear hr
  go_enter Tryz.func88, Tryz.ntmps88
  go_wp2_with fail
  refine HP.out.mono ?_
  rintro e w1 ⟨rfl, hb1⟩
  have HB1 := Lib.hid hb1
  clear hb1
  go_wp2_with fail
  go_ret
  exact ⟨by rw [HR.out]; rfl, HB1.out⟩
 | true =>
  have HR := Lib.hid (show r = i.isEmpty by rw [← hr]; simp)
  clear hr
  go_enter Tryz.func88, Tryz.ntmps88
  go_wp2_with fail
  refine HP.out.mono ?_
  rintro e w1 ⟨rfl, hb1⟩
  have HB1 := Lib.hid hb1
  clear hb1
  cases hi : i.isEmpty with
  | true =>
   go_wp2_with fail
   go_ret
   exact ⟨by rw [HR.out, hi]; rfl, HB1.out⟩
  | false =>
   go_wp2_with fail
   go_ret
   exact ⟨by rw [HR.out, hi]; rfl, HB1.out⟩
theorem unit_any (s : ByteArray) (w : World) (hs : s.size < 4294967281) (hm : MaxAt w) (r : Bool) (hr : unitB s.data.toList = r) :
  Calls Tryz.prog 50 #[.string s] w fun e w' => e = .returned (.bool r) ∧ Below w.heap.size w w' := by
 have HM := Lib.hid hm
 obtain ⟨m, hmm⟩ : ∃ m, decide (kindS s.data.toList ≠ 0) = m := ⟨_, rfl⟩
 obtain ⟨b, hb⟩ : ∃ b, bareS s.data.toList = b := ⟨_, rfl⟩
 unfold unitB at hr
 rw [hmm, hb] at hr
 have HMY := Lib.hid (may_any s w hs hm m hmm)
 have HBR := Lib.hid (fun W h => bare_any s W hs h b hb)
 clear hm hmm hb
 cases m with
 | false =>
  have HR := Lib.hid (show r = false by rw [← hr]; rfl)
  clear hr
  go_enter Tryz.func50, Tryz.ntmps50
  go_wp2_with fail
  refine HMY.out.mono ?_
  rintro e w1 ⟨rfl, hb1⟩
  have HB1 := Lib.hid hb1
  clear hb1
  go_wp2_with fail
  go_ret
  exact ⟨by rw [HR.out]; rfl, HB1.out⟩
 | true =>
  have HR := Lib.hid (show r = !b by rw [← hr]; simp)
  clear hr
  go_enter Tryz.func50, Tryz.ntmps50
  go_wp2_with fail
  refine HMY.out.mono ?_
  rintro e w1 ⟨rfl, hb1⟩
  have HB1 := Lib.hid hb1
  clear hb1
  go_wp2_with fail
  refine (HBR.out w1 (HM.out.below HB1.out)).mono ?_
  rintro e w2 ⟨rfl, hb2⟩
  have HB2 := Lib.hid (HB1.out.trans (hb2.mono HB1.out.size))
  clear hb2
  go_wp2_with fail
  go_ret
  exact ⟨by rw [HR.out]; rfl, HB2.out⟩
end Go.Proofs.YtdpnahojhmkemaaGreatDoor
namespace Go.Proofs.YtdpnahojhmkemaaGreatDoor
set_option linter.unusedVariables false
set_option linter.unusedSimpArgs false
def namedS (w : Str) : Bool := decide (kindS w ≠ 0) && !((ofS w).at_ && (ofS w).inst.isEmpty)
theorem named_unit (w : Str) : namedS w = unitB w := by
 unfold namedS unitB bareS partsS ofS
 by_cases h : kindS w = 0
 ·simp [h]
 ·simp [h]
end Go.Proofs.YtdpnahojhmkemaaGreatDoor
