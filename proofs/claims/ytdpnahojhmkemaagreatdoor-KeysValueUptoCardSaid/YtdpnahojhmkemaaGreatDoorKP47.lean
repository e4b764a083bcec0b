import Derived.Deep.CutRange
import Derived.Test.YtdpnahojhmkemaaGreatDoorKP7
import Derived.Test.YtdpnahojhmkemaaGreatDoorKP43
namespace Go.Proofs.YtdpnahojhmkemaaGreatDoor
open Go Go.RowKit
set_option linter.unusedVariables false
set_option linter.unusedSimpArgs false
set_option maxRecDepth 100000
set_option maxHeartbeats 4000000 in
theorem shown_any (w : World) (hM : MaxAt w) : Calls Tryz.prog 9 #[] w fun e w' => e = .returned (.bool true) ∧ Below w.heap.size w w' := by
 have HM := Lib.hid hM
 have HF := Lib.hid (find_any nService nType w)
 clear hM
 go_enter Tryz.func9, Tryz.ntmps9
 go_wp2_with fail
 refine HF.out.mono ?_
 rintro e w1 ⟨⟨sec, name, form, list, kinds, wa, wn, wc⟩, rfl, hkv, hb1⟩
 rw [find_type] at hkv ⊢
 have hkv' : KvRd w1 ⟨sec, name, form, list, kinds, wa, wn, wc⟩ keyType := hkv
 obtain rfl : form = 10 := hkv'.form
 obtain rfl : list = false := hkv'.list
 obtain rfl : wn = 3 := hkv'.wl
 simp only [Option.isSome_some]
 let a1 := w1.alloc (.cells #[.string ⟨sec.toArray⟩, .string ⟨name.toArray⟩, .int .i64 10, .bool false, .int .i64 kinds, .slice wa 3 wc] 28)
 let a2 := a1.alloc (.cells #[.string ⟨nUnit.toArray⟩, .string ⟨nAfter.toArray⟩, .string ⟨vAService.toArray⟩, .int .i64 2, .string ⟨nService.toArray⟩, .string ⟨nType.toArray⟩, .string ⟨vOdd.toArray⟩, .int .i64 4] 44)
 have hB2 : Below w.heap.size w a2 := hb1.trans ((((Below.refl w1.heap.size w1).alloc (Nat.le_refl _) _).alloc (by simp) _).mono hb1.size)
 have hz1 : a1.heap.size = w1.heap.size + 1 := by simp [a1]
 have hrow : RowRd encLn 4 a2 (some ⟨w1.heap.size + 1, 0, none⟩) shLines := by
  intro i hi
  refine ⟨w1.heap.size + 1, 0, rfl, by simp [a2, hz1], fun j v hj => ?_⟩
  have hg : a2.heap[w1.heap.size + 1]? = some (.cells #[.string ⟨nUnit.toArray⟩, .string ⟨nAfter.toArray⟩, .string ⟨vAService.toArray⟩, .int .i64 2, .string ⟨nService.toArray⟩, .string ⟨nType.toArray⟩, .string ⟨vOdd.toArray⟩, .int .i64 4] 44 (0, 0)) := by rw [← hz1]; exact heap_alloc_new a1 _
  rw [(rd hg).1]
  rcases (show i = 0 ∨ i = 1 by have : shLines.length = 2 := rfl; omega) with rfl | rfl
  ·rcases j with _ | _ | _ | _ | j
   ·exact hj
   ·exact hj
   ·exact hj
   ·exact hj
   ·exact absurd hj (by simp [encLn])
  ·rcases j with _ | _ | _ | _ | j
   ·exact hj
   ·exact hj
   ·exact hj
   ·exact hj
   ·exact absurd hj (by simp [encLn])
 have hval := value_w keyType ⟨sec, name, 10, false, kinds, wa, 3, wc⟩ nnotify a2 (hkv'.below ((((Below.refl w1.heap.size w1).alloc (Nat.le_refl _) _).alloc (by simp) _))) (.inr rfl) (by decide) (by decide) (HM.out.below hB2)
 rw [val_type] at hval
 have HVL := Lib.hid hval
 have HB2 := Lib.hid hB2
 have HRW := Lib.hid hrow
 clear hkv hkv' hb1 HF hB2 hz1 hrow hval
 unfold encK at *
 go_wp2_with fail
 refine HVL.out.mono ?_
 rintro e w3 ⟨rfl, hb3⟩
 have HB3 := Lib.hid (HB2.out.trans (hb3.mono HB2.out.size))
 have HR3 := Lib.hid (HRW.out.below hb3)
 have HC1 := Lib.hid (check_w 1 shLines _ 2 w3 (by decide) (HM.out.below HB3.out) HR3.out sh_forms 12 4 check1)
 clear hb3 HVL HRW HB2
 go_wp2_with fail
 refine HC1.out.mono ?_
 rintro e w4 ⟨rfl, hb4⟩
 have HB4 := Lib.hid (HB3.out.trans (hb4.mono HB3.out.size))
 have HR4 := Lib.hid (HR3.out.below hb4)
 have HC2 := Lib.hid (check_w 4 shLines _ 2 w4 (by decide) (HM.out.below HB4.out) HR4.out sh_forms 10 4 check4)
 clear hb4 HC1 HR3 HB3
 go_wp2_with fail
 refine HC2.out.mono ?_
 rintro e w5 ⟨rfl, hb5⟩
 have HB5 := Lib.hid (HB4.out.trans (hb5.mono HB4.out.size))
 have HA := Lib.hid (keysAll_any w5)
 clear hb5 HC2 HR4 HB4
 go_wp2_with fail
 refine HA.out.mono ?_
 rintro e w6 ⟨oa, cap, vs, rfl, -, -, hb6⟩
 have HB6 := Lib.hid (HB5.out.trans (hb6.mono HB5.out.size))
 clear hb6 HA HB5
 go_wp2_with fail
 go_ret
 exact ⟨rfl, HB6.out⟩
end Go.Proofs.YtdpnahojhmkemaaGreatDoor
namespace Go.Proofs.YtdpnahojhmkemaaGreatDoor
open Go Go.RowKit Go.Sort Go.BigFrame
set_option linter.unusedVariables false
set_option linter.unusedSimpArgs false
set_option maxRecDepth 100000
end Go.Proofs.YtdpnahojhmkemaaGreatDoor
