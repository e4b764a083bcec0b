import Derived.Deep.LoopGhost
import Derived.Deep.CutRange
import Derived.Test.YtdjkedcpehhmnaaGreatDoorUP43
import Derived.Test.YtdjkedcpehhmnaaGreatDoorUP44
namespace Go.Proofs.YtdjkedcpehhmnaaGreatDoor
open Go Go.RowKit
set_option linter.unusedVariables false
set_option linter.unusedSimpArgs false
set_option maxRecDepth 100000
theorem kind_service (p : Str) : kindS (p ++ [46, 115, 101, 114, 118, 105, 99, 101]) = 0 ∨ kindS (p ++ [46, 115, 101, 114, 118, 105, 99, 101]) = 1 := by
 have h : cutPt (p ++ [46, 115, 101, 114, 118, 105, 99, 101]) = (p, sService) := by
  unfold cutPt
  rw [show p ++ [46, 115, 101, 114, 118, 105, 99, 101] = p ++ 46 :: sService from rfl, lastPt_app p (by decide)]
  rfl
 unfold kindS
 rw [h]
 split
 ·exact .inr rfl
 ·exact .inl rfl
def instN (a : Str) : Str := [116, 64] ++ a ++ [46, 115, 101, 114, 118, 105, 99, 101]
theorem instN_at (a : Str) : (64 : UInt8) ∈ instN a := by simp [instN]
theorem instN_kind (a b : Str) (ha : kindS (instN a) ≠ 0) (hb : kindS (instN b) ≠ 0) : kindS (instN a) = kindS (instN b) := by
 have h1 := (kind_service ([116, 64] ++ a)).resolve_left ha
 have h2 := (kind_service ([116, 64] ++ b)).resolve_left hb
 exact h1.trans h2.symm
def cleanL (x : Ln) : Prop := (∀ c ∈ x.val, c ≠ 37) ∧ ∀ c ∈ x.val, c ≠ 64
theorem UnitSee.named {w : World} {cs : Array Value} {u : UV} (h : UnitSee w cs u) (x : Str) : UnitSee w (cs.setIfInBounds 0 (.string ⟨x.toArray⟩)) (u.upd 0 (.s x)) := by
 refine ⟨by simp [h.size], fun j v hv => ?_⟩
 by_cases hj : j = 0
 ·subst hj
  rw [Array.getElem?_setIfInBounds_self_of_lt (by rw [h.size]; decide)] at hv
  injection hv with hv
  rw [UV.upd_at, ← hv]
  rfl
 ·rw [Array.getElem?_setIfInBounds_ne (by omega)] at hv
  rw [UV.upd_ne _ _ hj]
  exact h.fld j v hv
set_option maxHeartbeats 8000000 in
theorem unitInstances_any (na nb : Str) (l : List Ln) (oa : Option Addr) (ca : Nat) (w : World) (hM : MaxAt w) (ha : RowRd encLn 4 w oa l) (za : l.length ≤ 1048576)
  (xa : ∀ x ∈ l, x.val.length ≤ 1048576) (hna : na.length ≤ 1048576) (hnb : nb.length ≤ 1048576) :
  Calls Tryz.prog 7 #[.string ⟨na.toArray⟩, .string ⟨nb.toArray⟩, .slice oa l.length ca] w fun e w' => e = .returned (.bool true) ∧ Below w.heap.size w w' := by
 have HSH := h_ (shownU_any w hM)
 have HM := h_ (fun W (h : Below w.heap.size w W) => hM.below h)
 have HRA := h_ (fun W (h : Below w.heap.size w W) => ha.below h)
 have HXA := h_ xa
 have q1 := cat_lists [116, 64] na (by simp; omega)
 have q2 := cat_lists ([116, 64] ++ na) [46, 115, 101, 114, 118, 105, 99, 101] (by simp; omega)
 have q3 := cat_lists [116, 64] nb (by simp; omega)
 have q4 := cat_lists ([116, 64] ++ nb) [46, 115, 101, 114, 118, 105, 99, 101] (by simp; omega)
 obtain ⟨pa, hpa⟩ : ∃ p, p = [116, 64] ++ na := ⟨_, rfl⟩
 obtain ⟨pb, hpb⟩ : ∃ p, p = [116, 64] ++ nb := ⟨_, rfl⟩
 obtain ⟨fa, hfa⟩ : ∃ p, p = instN na := ⟨_, rfl⟩
 obtain ⟨fb, hfb⟩ : ∃ p, p = instN nb := ⟨_, rfl⟩
 have hfa' : pa ++ [46, 115, 101, 114, 118, 105, 99, 101] = fa := by rw [hfa, hpa]; rfl
 have hfb' : pb ++ [46, 115, 101, 114, 118, 105, 99, 101] = fb := by rw [hfb, hpb]; rfl
 rw [← hpa] at q1 q2; rw [← hpb] at q3 q4
 rw [hfa'] at q2; rw [hfb'] at q4
 have HQ := h_ (And.intro (show Op.stringOp .add ⟨#[116, 64]⟩ ⟨na.toArray⟩ = pure (.string ⟨pa.toArray⟩) from q1) (And.intro (show Op.stringOp .add ⟨pa.toArray⟩ ⟨#[46, 115, 101, 114, 118, 105, 99, 101]⟩ = pure (.string ⟨fa.toArray⟩) from q2) (And.intro (show Op.stringOp .add ⟨#[116, 64]⟩ ⟨nb.toArray⟩ = pure (.string ⟨pb.toArray⟩) from q3) (show Op.stringOp .add ⟨pb.toArray⟩ ⟨#[46, 115, 101, 114, 118, 105, 99, 101]⟩ = pure (.string ⟨fb.toArray⟩) from q4))))
 obtain ⟨u1, c1, a1, h1⟩ : ∃ u c a, makeU fa l = (u, (c, a)) := ⟨_, _, _, rfl⟩
 obtain ⟨u2, c2, a2, h2⟩ : ∃ u c a, makeU fb l = (u, (c, a)) := ⟨_, _, _, rfl⟩
 have hfal : fa.length ≤ 2000000 := by rw [hfa]; simp [instN]; omega
 have hfbl : fb.length ≤ 2000000 := by rw [hfb]; simp [instN]; omega
 have HMA := h_ (fun W (h : Below w.heap.size w W) => makeU_any fa l oa ca W (HM.out W h) (HRA.out W h) (by omega) xa (by omega))
 have HMC := h_ (fun W (h : Below w.heap.size w W) => makeU_any fb l oa ca W (HM.out W h) (HRA.out W h) (by omega) xa (by omega))
 rw [h1] at HMA; rw [h2] at HMC
 have HT1 := h_ (show TypedU u1 by have := makeU_typed fa l; rw [h1] at this; exact this)
 have HT2 := h_ (show TypedU u2 by have := makeU_typed fb l; rw [h2] at this; exact this)
 have HL := h_ (show (∀ x ∈ l, cleanL x) → c1 ≠ 5 → c2 ≠ 5 → c1 = c2 ∧ a1 = a2 ∧ u2.upd 0 (u1 0) = u1 from fun h e1 e2 => by
  have := instances_law fa fb (by rw [hfa]; exact instN_at na) (by rw [hfb]; exact instN_at nb) (fun x y => by rw [hfa, hfb] at *; exact instN_kind na nb x y) l h (by rw [h1]; exact e1) (by rw [h2]; exact e2)
  rw [h1, h2] at this
  obtain ⟨q1, q2⟩ := this
  injection q1 with q3 q4
  exact ⟨q3, q4, q2⟩)
 obtain ⟨n1, hn1⟩ : ∃ x, u1 0 = .s x := tag_s (HT1.out 0)
 have HN1 := h_ hn1
 clear hM ha xa h1 h2 q1 q2 q3 q4 hpa hpb hfa hfb hfa' hfb' hn1
 go_enter Tryz.func7, Tryz.ntmps7
 go_wp2_with fail
 refine HSH.out.mono ?_
 rintro e w0 ⟨rfl, hb0⟩
 have HB1 := h_ hb0
 clear hb0 HSH
 go_wp2_with fail
 go_loopg [18] (l.length + 1) (fun f i wr => ∃ k : Nat, k ≤ l.length ∧ i = .int .i64 k ∧ l.length - k < f ∧ Hid (∀ x ∈ l.take k, cleanL x) ∧ Hid (Below w.heap.size w wr))
 case atStart => exact ⟨0, by omega, rfl, by omega, fun x hx => by simp at hx, HB1⟩
 case round =>
  obtain ⟨k, hk, rfl, hfu, HC, HB⟩ := hrel
  clear HB1
  by_cases hlt : k < l.length
  ·have hz : (k : Int) < (l.length : Int) := by omega
   obtain ⟨x, hx⟩ : ∃ x, x = l[k] := ⟨_, rfl⟩
   obtain ⟨b4, o4, rfl, -, hcc⟩ := HRA.out wr HB.out k hlt
   rw [← hx] at hcc
   have d0 := hcc 0 _ rfl; have d1 := hcc 1 _ rfl; have d2 := hcc 2 _ rfl; have d3 := hcc 3 _ rfl
   simp only [Nat.add_zero] at d0
   have HC2 := h_ (show cleanL x → ∀ y ∈ l.take (k + 1), cleanL y by
    intro h y hy
    rw [List.take_succ_eq_append_getElem hlt, ← hx] at hy
    rcases List.mem_append.1 hy with hy | hy
    ·exact HC.out y hy
    ·rw [List.mem_singleton.1 hy]; exact h)
   obtain ⟨xsec, xkey, xval, xat⟩ := x
   obtain ⟨xv, hxv⟩ : ∃ xv : ByteArray, xv = ⟨xval.toArray⟩ := ⟨_, rfl⟩
   rw [← hxv] at d2
   have HV := h_ (show xv.data.toList = xval by rw [hxv])
   have hzs : xv.size = xval.length := by rw [hxv]; simp [ByteArray.size]
   have hvl : xv.size ≤ 1048576 := by rw [hzs]; exact HXA.out ⟨xsec, xkey, xval, xat⟩ (by rw [hx]; exact List.getElem_mem hlt)
   have HXB := h_ (heap_alloc_new wr (.cells #[.string ⟨xsec.toArray⟩, .string ⟨xkey.toArray⟩, .string xv, .int .i64 xat] 43))
   have HBx := h_ (HB.out.alloc HB.out.size (.cells #[.string ⟨xsec.toArray⟩, .string ⟨xkey.toArray⟩, .string xv, .int .i64 xat] 43))
   clear hx hcc hxv hzs HC
   unfold encLn at *
   go_wp2_with fail
   obtain ⟨g1, rfl⟩ : ∃ g, g = gk := ⟨gk, rfl⟩
   obtain ⟨B, hB⟩ : ∃ B, B = wr.heap.size := ⟨_, rfl⟩
   rw [← hB] at HXB ⊢
   clear hB
   go_loopg [9] (xv.size + 1) (fun f i wi => ∃ n : Nat, n ≤ xv.size ∧ i = .int .i64 n ∧ xv.size - n < f ∧ Hid (∀ c ∈ xv.data.toList.take n, c ≠ 37 ∧ c ≠ 64) ∧ Hid (wi.heap[B]? = some (.cells #[.string ⟨xsec.toArray⟩, .string ⟨xkey.toArray⟩, .string xv, .int .i64 xat] 43 (0, 0))) ∧ Hid (Below w.heap.size w wi))
   case atStart => exact ⟨0, by omega, rfl, by omega, fun c hc => by simp at hc, HXB, HBx⟩
   case round =>
    obtain ⟨n, hn, rfl, hfi, HCn, HXi, HBi⟩ := hrel
    obtain ⟨x0, x1, x2, x3⟩ := cells4 HXi.out
    by_cases hln : n < xv.size
    ·have hlz : (n : Int) < (xv.size : Int) := by omega
     obtain ⟨c, hc⟩ : ∃ c, c = xv[n] := ⟨_, rfl⟩
     have hcl : xv.data.toList[n]'(by simpa using hln) = c := by rw [hc]; rfl
     have HC3 := h_ (show c ≠ 37 → c ≠ 64 → ∀ c ∈ xv.data.toList.take (n + 1), c ≠ 37 ∧ c ≠ 64 by
      intro h1 h2 d hd
      rw [List.take_succ_eq_append_getElem (by simpa using hln), hcl] at hd
      rcases List.mem_append.1 hd with hd | hd
      ·exact HCn.out d hd
      ·rw [List.mem_singleton.1 hd]; exact ⟨h1, h2⟩)
     have e1 : ((xv[n].toNat : Int) == (37 : Int)) = (c == 37) := by rw [← hc]; exact (beq_u8 c 37).symm
     have e2 : ((xv[n].toNat : Int) == (64 : Int)) = (c == 64) := by rw [← hc]; exact (beq_u8 c 64).symm
     clear hc hcl HCn
     cases q37 : (c == 37) with
     | true =>
      rw [q37] at e1
      go_wp2_with fail
      go_ret
      exact ⟨rfl, HBi.out⟩
     | false =>
      rw [q37] at e1
      cases q64 : (c == 64) with
      | true =>
       rw [q64] at e2
       go_wp2_with fail
       go_ret
       exact ⟨rfl, HBi.out⟩
      | false =>
       rw [q64] at e2
       have HC4 := h_ (HC3.out (beq_eq_false_iff_ne.1 q37) (beq_eq_false_iff_ne.1 q64))
       clear HC3 q37 q64
       go_wp2_with fail
       go_roundg (gk - 1)
       case measure => omega
       case rel => exact ⟨n + 1, by omega, by go_num, by omega, HC4, HXi, HBi⟩
    ·have hlz : ¬ ((n : Int) < (xv.size : Int)) := by omega
     have HC5 := h_ (HC2.out (by
      have hq := HCn.out
      rw [List.take_of_length_le (by simp; omega), HV.out] at hq
      exact ⟨fun c hc => (hq c hc).1, fun c hc => (hq c hc).2⟩))
     clear HC2 HCn
     go_wp2_with fail
     go_roundg (g1 - 1)
     case measure => omega
     case rel => exact ⟨k + 1, by omega, by go_num, by omega, HC5, HBi⟩
  ·have hk3 : k = l.length := by omega
   subst hk3
   have HCA := h_ (show ∀ x ∈ l, cleanL x by have := HC.out; rwa [List.take_of_length_le (Nat.le_refl _)] at this)
   have HL2 := h_ (HL.out HCA.out)
   obtain ⟨q1, q2, -, -⟩ := HQ.out
   clear HC HL HCA hk hlt hfu
   go_wp2_with fail
   clear q1 q2
   refine (HMA.out wr HB.out).mono ?_
   rintro e w1 ⟨hb1, cs1, rfl, hrd1⟩
   replace HB := h_ (HB.out.trans (hb1.mono HB.out.size))
   have LW1 := h_ HB.out.size
   have HON1 := h_ hrd1.one
   have HSC1 := h_ (show (Tryz.prog.info? 30).map (·.size) = some cs1.size by rw [hrd1.size]; rfl)
   have HSZ1 := h_ (show unitZero.size = cs1.size by rw [hrd1.size]; rfl)
   have HU1 := h_ hrd1
   have HV1 := h_ (Below.refl w1.heap.size w1)
   clear hb1 hrd1
   go_upto_region 13 with (first
    | (refine l_alloc rfl _ unitZero rfl (run_alloc_unit _) ?_; intro wa1 ha1 hba1)
    | (refine l_store rfl 30 (.tmp 10) (.tmp 48) w1.heap.size cs1 unitZero 30 rfl rfl rfl (heap_below ha1 ((Below.refl _ _).alloc (Nat.le_refl _) _)) HSZ1.out HSC1.out HON1.out ?_; intro wb1 hc1 hf1; have tv1 := two_vars ha1 hba1 hc1 hf1; refine l_store rfl 33 (.tmp 11) (.tmp 49) wa1.heap.size #[.int .i64 c1, .int .i64 a1] #[.int .i64 0, .int .i64 0] 33 rfl rfl rfl tv1.1 rfl rfl (one_fault c1 a1) ?_; intro v1 hd1 hg1; have tw1 := two_vars2 hc1 tv1 hg1))
   replace HB := h_ (HB.out.trans (tw1.2.1.mono HB.out.size))
   replace HV1 := h_ (HV1.out.trans (tw1.2.1.mono HV1.out.size))
   have HX1 := h_ tw1.1
   have HF1 := h_ hd1
   have LO1 := h_ tw1.2.2
   clear ha1 hba1 hc1 hf1 tv1 hg1 tw1 hd1
   clear HMA
   obtain ⟨-, -, q3, q4⟩ := HQ.out
   go_wp2_with fail
   clear q3 q4 HQ
   refine (HMC.out v1 HB.out).mono ?_
   rintro e w2 ⟨hb2, cs2, rfl, hrd2⟩
   replace HB := h_ (HB.out.trans (hb2.mono HB.out.size))
   replace HV1 := h_ (HV1.out.trans (hb2.mono HV1.out.size))
   replace HX1 := h_ (heap_below HX1.out hb2)
   replace HF1 := h_ (heap_below HF1.out hb2)
   have L2HX1 := h_ (lt_heap HX1.out)
   have L2HF1 := h_ (lt_heap HF1.out)
   have LW2 := h_ HB.out.size
   have HON2 := h_ hrd2.one
   have HSC2 := h_ (show (Tryz.prog.info? 30).map (·.size) = some cs2.size by rw [hrd2.size]; rfl)
   have HSZ2 := h_ (show unitZero.size = cs2.size by rw [hrd2.size]; rfl)
   have HU2 := h_ hrd2
   have HV2 := h_ (Below.refl w2.heap.size w2)
   clear hb2 hrd2
   go_upto_region 14 with (first
    | (refine l_alloc rfl _ unitZero rfl (run_alloc_unit _) ?_; intro wa2 ha2 hba2)
    | (refine l_store rfl 30 (.tmp 12) (.tmp 56) w2.heap.size cs2 unitZero 30 rfl rfl rfl (heap_below ha2 ((Below.refl _ _).alloc (Nat.le_refl _) _)) HSZ2.out HSC2.out HON2.out ?_; intro wb2 hc2 hf2; have tv2 := two_vars ha2 hba2 hc2 hf2; refine l_store rfl 33 (.tmp 13) (.tmp 57) wa2.heap.size #[.int .i64 c2, .int .i64 a2] #[.int .i64 0, .int .i64 0] 33 rfl rfl rfl tv2.1 rfl rfl (one_fault c2 a2) ?_; intro v2 hd2 hg2; have tw2 := two_vars2 hc2 tv2 hg2))
   replace HB := h_ (HB.out.trans (tw2.2.1.mono HB.out.size))
   replace HV1 := h_ (HV1.out.trans (tw2.2.1.mono HV1.out.size))
   replace HX1 := h_ (heap_below HX1.out tw2.2.1)
   replace HF1 := h_ (heap_below HF1.out tw2.2.1)
   replace HV2 := h_ (HV2.out.trans (tw2.2.1.mono HV2.out.size))
   have HX2 := h_ tw2.1
   have HF2 := h_ hd2
   have LO2 := h_ tw2.2.2
   clear ha2 hba2 hc2 hf2 tv2 hg2 tw2 hd2
   clear HMC
   obtain ⟨g0, g1, -, -⟩ := fault_facts HF1.out
   obtain ⟨k0, k1, -, -⟩ := fault_facts HF2.out
   by_cases h5 : c1 = 5
   ·subst h5
    clear HL2
    go_wp2_with fail
    go_ret
    exact ⟨rfl, HB.out⟩
   have n5 : (c1 == 5) = false := beq_eq_false_iff_ne.2 h5
   by_cases m5 : c2 = 5
   ·subst m5
    clear HL2
    go_wp2_with fail
    go_ret
    exact ⟨rfl, HB.out⟩
   have o5 : (c2 == 5) = false := beq_eq_false_iff_ne.2 m5
   obtain ⟨rfl, rfl, hu⟩ := HL2.out h5 m5
   have HUU := h_ hu
   clear hu h5 m5 HL2
   obtain ⟨v0, p0, s0⟩ := HU1.out.see.at 0 (by decide)
   rw [HN1.out] at s0
   obtain rfl : v0 = .string ⟨n1.toArray⟩ := s0
   have z1 := ((rd HX1.out).1 0).trans p0
   obtain ⟨t0, p1, s1⟩ := HU2.out.see.at 0 (by decide)
   have z2 := ((rd HX2.out).1 0).trans p1
   have z3 := (rd HX2.out).2.1 0
   clear p0 p1 s1
   go_upto_region 17 with fail
   have HX2' := h_ (heap_setCell HX2.out 0 (.string ⟨n1.toArray⟩))
   have HX1' := h_ (heap_other HX1.out (a := ⟨w2.heap.size, 0, none⟩) (Nat.ne_of_lt L2HX1.out) (.string ⟨n1.toArray⟩))
   have HF1' := h_ (heap_other HF1.out (a := ⟨w2.heap.size, 0, none⟩) (Nat.ne_of_lt L2HF1.out) (.string ⟨n1.toArray⟩))
   have HF2' := h_ (heap_other HF2.out (a := ⟨w2.heap.size, 0, none⟩) (Nat.ne_of_gt LO2.out) (.string ⟨n1.toArray⟩))
   have HB' := h_ (HB.out.setCell (p := ⟨w2.heap.size, 0, none⟩) LW2.out (.string ⟨n1.toArray⟩))
   have HU1' := h_ (HU1.out.below (HV1.out.setCell (p := ⟨w2.heap.size, 0, none⟩) (Nat.le_of_lt L2HX1.out) (.string ⟨n1.toArray⟩))).see
   have hu2 := (HU2.out.below (HV2.out.setCell (p := ⟨w2.heap.size, 0, none⟩) (Nat.le_refl _) (.string ⟨n1.toArray⟩))).see.named n1
   rw [← HN1.out, HUU.out] at hu2
   have HU2' := h_ hu2
   generalize v2.setCell ⟨w2.heap.size, 0, none⟩ (.string ⟨n1.toArray⟩) = vz at *
   clear hu2 HX1 HX2 HF1 HF2 HB z1 z2 z3 g0 g1 k0 k1 HV1 HV2
   have HSM := h_ (same10_any cs1 _ u1 u1 vz HU1'.out HU2'.out HT1.out HT1.out true (sameU_refl u1))
   have HSD := h_ (show (Tryz.prog.info? 30).map (·.size) = some (cs2.setIfInBounds 0 (.string ⟨n1.toArray⟩)).size by rw [Array.size_setIfInBounds]; exact HSC2.out)
   obtain ⟨g0, g1, -, -⟩ := fault_facts HF1'.out
   obtain ⟨k0, k1, -, -⟩ := fault_facts HF2'.out
   go_wp2_with (first
    | (refine l_load_w rfl 30 (.tmp 10) w1.heap.size cs1 30 _ rfl rfl HX1'.out rfl rfl HSC1.out ?_)
    | (refine l_load_w rfl 30 (.tmp 12) w2.heap.size (cs2.setIfInBounds 0 (.string ⟨n1.toArray⟩)) 30 _ rfl rfl HX2'.out rfl rfl HSD.out ?_))
   refine HSM.out.mono ?_
   rintro e w9 ⟨rfl, hb9⟩
   have HB9 := h_ (HB'.out.trans (hb9.mono HB'.out.size))
   clear hb9
   go_wp2_with fail
   go_ret
   exact ⟨rfl, HB9.out⟩
end Go.Proofs.YtdjkedcpehhmnaaGreatDoor
