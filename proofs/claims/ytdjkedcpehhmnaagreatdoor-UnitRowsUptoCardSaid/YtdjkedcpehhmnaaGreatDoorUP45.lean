import Derived.Deep.CutRange
import Derived.Test.YtdjkedcpehhmnaaGreatDoorUP43
import Derived.Test.YtdjkedcpehhmnaaGreatDoorUP44
namespace Go.Proofs.YtdjkedcpehhmnaaGreatDoor
open Go Go.RowKit
set_option linter.unusedVariables false
set_option linter.unusedSimpArgs false
set_option maxRecDepth 100000
set_option maxHeartbeats 8000000 in
theorem unitRows_any (nm : Str) (la lb : List Ln) (oa ob : Option Addr) (ca cb : Nat) (w : World) (hM : MaxAt w) (ha : RowRd encLn 4 w oa la) (hb : RowRd encLn 4 w ob lb) (za : la.length ≤ 1048576) (zb : lb.length ≤ 1048576)
  (xa : ∀ x ∈ la, x.val.length ≤ 1048576) (xb : ∀ x ∈ lb, x.val.length ≤ 1048576) (hnm : nm.length ≤ 1048576) :
  Calls Tryz.prog 3 #[.string ⟨nm.toArray⟩, .slice oa la.length ca, .slice ob lb.length cb] w fun e w' => e = .returned (.bool true) ∧ Below w.heap.size w w' := by
 have HSH := h_ (shownU_any w hM)
 have HM := h_ (fun W (h : Below w.heap.size w W) => hM.below h)
 have HRA := h_ (fun W (h : Below w.heap.size w W) => ha.below h)
 have HRB := h_ (fun W (h : Below w.heap.size w W) => hb.below h)
 obtain ⟨u1, c1, a1, h1⟩ : ∃ u c a, makeU nm la = (u, (c, a)) := ⟨_, _, _, rfl⟩
 obtain ⟨u2, c2, a2, h2⟩ : ∃ u c a, makeU nm (la ++ lb) = (u, (c, a)) := ⟨_, _, _, rfl⟩
 have HMA := h_ (fun W (h : Below w.heap.size w W) => makeU_any nm la oa ca W (HM.out W h) (HRA.out W h) (by omega) xa (by omega))
 have HMC := h_ (fun W (h : Below w.heap.size w W) o cap (hr : RowRd encLn 4 W o (la ++ lb)) => by have := makeU_any nm (la ++ lb) o cap W (HM.out W h) hr (by rw [List.length_append]; omega) (fun x hx => (List.mem_append.1 hx).elim (xa x) (xb x)) (by omega); rw [List.length_append] at this; exact this)
 rw [h1] at HMA; rw [h2] at HMC
 have HT2 := h_ (show TypedU u2 by have := makeU_typed nm (la ++ lb); rw [h2] at this; exact this)
 have HL := h_ (show (c1 ≠ 0 ∧ c1 ≠ 6 ∧ c1 ≠ 7) → c2 = c1 ∧ a2 = a1 ∧ u2 = zeroU from fun h => by
  have := rows_law nm la lb (by rw [h1]; exact h)
  rw [h1, h2] at this
  obtain ⟨q1, q2⟩ := this
  injection q1 with q3 q4
  exact ⟨q3, q4, q2⟩)
 have HZ := h_ (show c2 = 0 ∨ u2 = zeroU by
  have := makeU_two nm (la ++ lb)
  rw [h2] at this
  rcases this with h | h
  ·exact .inr h
  ·injection h with h _; exact .inl h)
 clear hM ha hb xa xb h1 h2
 go_enter Tryz.func3, Tryz.ntmps3
 go_wp2_with fail
 refine HSH.out.mono ?_
 rintro e w0 ⟨rfl, hb0⟩
 have HB := h_ hb0
 clear hb0 HSH
 go_wp2_with fail
 refine (HMA.out w0 HB.out).mono ?_
 rintro e w1 ⟨hb1, cs1, rfl, hrd1⟩
 replace HB := h_ (HB.out.trans (hb1.mono HB.out.size))
 have LW1 := h_ HB.out.size
 have HON1 := h_ hrd1.one
 have HSC1 := h_ (show (Tryz.prog.info? 30).map (·.size) = some cs1.size by rw [hrd1.size]; rfl)
 have HSZ1 := h_ (show unitZero.size = cs1.size by rw [hrd1.size]; rfl)
 have HU1 := h_ hrd1
 have HV1 := h_ (Below.refl w1.heap.size w1)
 clear hb1 hrd1
 go_upto_region 4 with (first
  | (refine l_alloc rfl _ unitZero rfl (run_alloc_unit _) ?_; intro wa1 ha1 hba1)
  | (refine l_store rfl 30 (.tmp 7) (.tmp 17) w1.heap.size cs1 unitZero 30 rfl rfl rfl (heap_below ha1 ((Below.refl _ _).alloc (Nat.le_refl _) _)) HSZ1.out HSC1.out HON1.out ?_; intro wb1 hc1 hf1; have tv1 := two_vars ha1 hba1 hc1 hf1; refine l_store rfl 33 (.tmp 8) (.tmp 18) wa1.heap.size #[.int .i64 c1, .int .i64 a1] #[.int .i64 0, .int .i64 0] 33 rfl rfl rfl tv1.1 rfl rfl (one_fault c1 a1) ?_; intro v1 hd1 hg1; have tw1 := two_vars2 hc1 tv1 hg1))
 replace HB := h_ (HB.out.trans (tw1.2.1.mono HB.out.size))
 replace HV1 := h_ (HV1.out.trans (tw1.2.1.mono HV1.out.size))
 have HX1 := h_ tw1.1
 have HF1 := h_ hd1
 have LO1 := h_ tw1.2.2
 clear ha1 hba1 hc1 hf1 tv1 hg1 tw1 hd1
 clear HMA
 obtain ⟨x1, y1, o2, cap2, y2, hr1, hr2, ho2, hb2⟩ := lns_two ca cb (HRA.out v1 HB.out) (HRB.out v1 HB.out) (by omega) (by omega)
 have HR1 := h_ hr1; have HR2 := h_ hr2
 have HO2 := h_ (RowRd.of_own (T := 43) encLn_len ho2)
 replace HB := h_ (HB.out.trans (hb2.mono HB.out.size))
 replace HV1 := h_ (HV1.out.trans (hb2.mono HV1.out.size))
 replace HX1 := h_ (heap_below HX1.out hb2)
 replace HF1 := h_ (heap_below HF1.out hb2)
 clear hr1 hr2 ho2 hb2
 go_wp2_with (at_builtin; first | refine wpList_append_run rfl _ _ 22 rfl HR1.out rfl rfl ?_ | refine wpList_append_run rfl _ _ 22 rfl HR2.out rfl rfl ?_)
 refine (HMC.out y2 HB.out o2 cap2 HO2.out).mono ?_
 rintro e w2 ⟨hb2, cs2, rfl, hrd2⟩
 replace HB := h_ (HB.out.trans (hb2.mono HB.out.size))
 replace HV1 := h_ (HV1.out.trans (hb2.mono HV1.out.size))
 replace HX1 := h_ (heap_below HX1.out hb2)
 replace HF1 := h_ (heap_below HF1.out hb2)
 have L2HX1 := h_ (lt_heap HX1.out)
 have L2HF1 := h_ (lt_heap HF1.out)
 have LW2 := h_ HB.out.size
 have HON2 := h_ hrd2.one
 have HSC2 := h_ (show (Tryz.prog.info? 30).map (·.size) = some cs2.size by rw [hrd2.size]; rfl)
 have HSZ2 := h_ (show unitZero.size = cs2.size by rw [hrd2.size]; rfl)
 have HU2 := h_ hrd2
 have HV2 := h_ (Below.refl w2.heap.size w2)
 clear hb2 hrd2
 go_upto_region 5 with (first
  | (refine l_alloc rfl _ unitZero rfl (run_alloc_unit _) ?_; intro wa2 ha2 hba2)
  | (refine l_store rfl 30 (.tmp 9) (.tmp 26) w2.heap.size cs2 unitZero 30 rfl rfl rfl (heap_below ha2 ((Below.refl _ _).alloc (Nat.le_refl _) _)) HSZ2.out HSC2.out HON2.out ?_; intro wb2 hc2 hf2; have tv2 := two_vars ha2 hba2 hc2 hf2; refine l_store rfl 33 (.tmp 10) (.tmp 27) wa2.heap.size #[.int .i64 c2, .int .i64 a2] #[.int .i64 0, .int .i64 0] 33 rfl rfl rfl tv2.1 rfl rfl (one_fault c2 a2) ?_; intro v2 hd2 hg2; have tw2 := two_vars2 hc2 tv2 hg2))
 replace HB := h_ (HB.out.trans (tw2.2.1.mono HB.out.size))
 replace HV1 := h_ (HV1.out.trans (tw2.2.1.mono HV1.out.size))
 replace HX1 := h_ (heap_below HX1.out tw2.2.1)
 replace HF1 := h_ (heap_below HF1.out tw2.2.1)
 replace HV2 := h_ (HV2.out.trans (tw2.2.1.mono HV2.out.size))
 have HX2 := h_ tw2.1
 have HF2 := h_ hd2
 have LO2 := h_ tw2.2.2
 clear ha2 hba2 hc2 hf2 tv2 hg2 tw2 hd2
 clear HMC HR1 HR2 HO2
 have HSM := h_ (same10_any cs2 unitZero u2 zeroU v2 (HU2.out.below HV2.out).see (UnitRd.zero v2).see HT2.out TypedU.zero _ rfl)
 obtain ⟨g0, g1, -, -⟩ := fault_facts HF1.out
 obtain ⟨k0, k1, -, -⟩ := fault_facts HF2.out
 by_cases h0 : c1 = 0
 ·subst h0
  by_cases hc2 : c2 = 0
  ·subst hc2
   clear HL HZ HSM
   go_wp2_with fail
   go_ret
   exact ⟨rfl, HB.out⟩
  ·have hz2 : u2 = zeroU := HZ.out.resolve_left hc2
   subst hz2
   rw [sameU_refl] at HSM
   have hn2 : (c2 == 0) = false := beq_eq_false_iff_ne.2 hc2
   clear hc2 HL HZ
   go_wp2_with (first
    | (refine l_load_w rfl 30 _ w2.heap.size cs2 30 _ rfl rfl HX2.out rfl rfl HSC2.out ?_)
    | (refine l_build_w rfl 30 #[] #[] _ rfl (by simp) (build_zero _) ?_))
   refine HSM.out.mono ?_
   rintro e w9 ⟨rfl, hb9⟩
   have HB9 := h_ (HB.out.trans (hb9.mono HB.out.size))
   clear hb9
   go_wp2_with fail
   go_ret
   exact ⟨rfl, HB9.out⟩
 have n0 : (c1 != 0) = true := bne_iff_ne.2 h0
 by_cases h6 : c1 = 6
 ·subst h6
  by_cases hc2 : c2 = 0
  ·subst hc2
   clear HL HZ HSM
   go_wp2_with fail
   go_ret
   exact ⟨rfl, HB.out⟩
  ·have hz2 : u2 = zeroU := HZ.out.resolve_left hc2
   subst hz2
   rw [sameU_refl] at HSM
   have hn2 : (c2 == 0) = false := beq_eq_false_iff_ne.2 hc2
   clear hc2 HL HZ
   go_wp2_with (first
    | (refine l_load_w rfl 30 _ w2.heap.size cs2 30 _ rfl rfl HX2.out rfl rfl HSC2.out ?_)
    | (refine l_build_w rfl 30 #[] #[] _ rfl (by simp) (build_zero _) ?_))
   refine HSM.out.mono ?_
   rintro e w9 ⟨rfl, hb9⟩
   have HB9 := h_ (HB.out.trans (hb9.mono HB.out.size))
   clear hb9
   go_wp2_with fail
   go_ret
   exact ⟨rfl, HB9.out⟩
 have n6 : (c1 != 6) = true := bne_iff_ne.2 h6
 by_cases h7 : c1 = 7
 ·subst h7
  by_cases hc2 : c2 = 0
  ·subst hc2
   clear HL HZ HSM
   go_wp2_with fail
   go_ret
   exact ⟨rfl, HB.out⟩
  ·have hz2 : u2 = zeroU := HZ.out.resolve_left hc2
   subst hz2
   rw [sameU_refl] at HSM
   have hn2 : (c2 == 0) = false := beq_eq_false_iff_ne.2 hc2
   clear hc2 HL HZ
   go_wp2_with (first
    | (refine l_load_w rfl 30 _ w2.heap.size cs2 30 _ rfl rfl HX2.out rfl rfl HSC2.out ?_)
    | (refine l_build_w rfl 30 #[] #[] _ rfl (by simp) (build_zero _) ?_))
   refine HSM.out.mono ?_
   rintro e w9 ⟨rfl, hb9⟩
   have HB9 := h_ (HB.out.trans (hb9.mono HB.out.size))
   clear hb9
   go_wp2_with fail
   go_ret
   exact ⟨rfl, HB9.out⟩
 have n7 : (c1 != 7) = true := bne_iff_ne.2 h7
 obtain ⟨rfl, rfl, rfl⟩ := HL.out ⟨h0, h6, h7⟩
 rw [sameU_refl] at HSM
 clear h0 h6 h7 HL HZ
 go_wp2_with (first
  | (refine l_load_w rfl 30 _ w2.heap.size cs2 30 _ rfl rfl HX2.out rfl rfl HSC2.out ?_)
  | (refine l_build_w rfl 30 #[] #[] _ rfl (by simp) (build_zero _) ?_))
 refine HSM.out.mono ?_
 rintro e w9 ⟨rfl, hb9⟩
 have HB9 := h_ (HB.out.trans (hb9.mono HB.out.size))
 clear hb9
 go_wp2_with fail
 go_ret
 exact ⟨rfl, HB9.out⟩
end Go.Proofs.YtdjkedcpehhmnaaGreatDoor
