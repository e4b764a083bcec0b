import Derived.Test.YtdpnahojhmkemaaGreatDoorKP44
namespace Go.Proofs.YtdpnahojhmkemaaGreatDoor
open Go Go.RowKit
set_option linter.unusedVariables false
set_option linter.unusedSimpArgs false
set_option maxRecDepth 100000
set_option maxHeartbeats 4000000 in
theorem valueRef_6 (ws : List Str) (kv : KeyV) (v : Str) (w : World) (hwn : kv.wn = ws.length) (hrow : StrRow w kv.wa ws) (hw : ws.length ≤ 4294967296) (hl : v.length ≤ 1000000000) (hf : kv.form = 6) (r : Int) (hr : valE kv.form kv.list v (rightS kv.form ws v) = r) :
  Calls Tryz.prog 16 #[.agg (encK kv).toArray, .string ⟨v.toArray⟩] w fun e w' => e = .returned (.int .i64 r) ∧ Below w.heap.size w w' := by
 have HBL := Lib.hid (fun W => blanks1_any ⟨v.toArray⟩ ⟨#[32]⟩ W (by show v.toArray.size ≤ _; simp; omega) (by decide) (blanksS v) (fldB_one [32] rfl v []))
 unfold RowsOut at HBL
 have HV0 := Lib.hid hr
 obtain ⟨ks, kn, kf, kl, kk, wa, wn, wc⟩ := kv
 simp only at hf
 subst hf
 have HROW := Lib.hid hrow
 simp only at HV0 HROW hwn
 unfold encK
 simp only
 have HN0 := Lib.hid (show (w.alloc (.cells #[.string ⟨ks.toArray⟩, .string ⟨kn.toArray⟩, .int .i64 6, .bool kl, .int .i64 kk, .slice wa wn wc] 28)).heap[w.heap.size]? = some (.cells #[.string ⟨ks.toArray⟩, .string ⟨kn.toArray⟩, .int .i64 6, .bool kl, .int .i64 kk, .slice wa wn wc] 28 (0, 0)) from heap_alloc_new w _)
 have HB0 := Lib.hid ((Below.refl w.heap.size w).alloc (Nat.le_refl _) (.cells #[.string ⟨ks.toArray⟩, .string ⟨kn.toArray⟩, .int .i64 6, .bool kl, .int .i64 kk, .slice wa wn wc] 28))
 clear hrow hr
 subst hwn
 obtain ⟨wn, hwn⟩ : ∃ wn, wn = ws.length := ⟨_, rfl⟩
 rw [← hwn] at HN0 HB0 ⊢
 have HWN := Lib.hid hwn
 clear hwn
 have HV1 := Lib.hid (show valE 6 kl v (eachB unitB (blanksS v)) = r from HV0.out)
 clear HV0
 have HMX := Lib.hid (fldS_mem v.length v [] (by simp))
 have HLN := Lib.hid (blanksS_len v [])
 go_enter Tryz.func16, Tryz.ntmps16
 go_wp2_with fail
 refine (HBL.out _).mono ?_
 rintro e w2 ⟨hb2, va, rfl, hown⟩
 obtain ⟨oa, cap, rfl⟩ := ownsRow_form hown
 have HR2 := Lib.hid (StrRow.of_own hown)
 have HB2 := Lib.hid (HB0.out.trans (hb2.mono HB0.out.size))
 have HN2 := Lib.hid (heap_below HN0.out hb2)
 obtain ⟨N, hN⟩ : ∃ N, N = w.heap.size := ⟨_, rfl⟩
 rw [← hN] at HN2 ⊢
 have HNW := Lib.hid hN
 clear hb2 hown HBL HB0 HN0 hN
 obtain ⟨l, hlb⟩ : ∃ l, l = blanksS v := ⟨_, rfl⟩
 rw [← hlb] at HR2 ⊢
 obtain ⟨p0, p1, p2, p3, p4, p5⟩ := cells6K HN2.out
 have HMEM := Lib.hid (show ∀ x ∈ l, x.length ≤ 1000000000 from by rw [hlb]; intro x hx; have := HMX.out x hx; omega)
 have hll : l.length ≤ 1000000001 := by rw [hlb]; have := HLN.out; unfold blanksS; omega
 have HV := Lib.hid (show valE 6 kl v (decide (0 < l.length) && l.all unitB) = r from by
  rw [← HV1.out, ← hlb]
  congr 1
  unfold eachB
  cases l <;> simp)
 obtain ⟨n, hn⟩ : ∃ n, n = l.length := ⟨_, rfl⟩
 rw [← hn] at HV hll ⊢
 have HNL := Lib.hid hn
 clear hlb hn HMX HLN HV1
 by_cases hn0 : 0 < n
 ·have hz0 : (0 : Int) < (n : Int) := by omega
  have hz1 : (n : Int) > 0 := hz0
  go_wp2_with fail
  go_loopg [5, 41] (n + 1) (fun f b i wr => ∃ (j : Nat) (g : Bool), j ≤ n ∧ i = .int .i64 j ∧ b = .bool g ∧ n - j < f ∧ Hid (g = (decide (0 < n) && (l.take j).all unitB)) ∧ Hid (Below w2.heap.size w2 wr))
  case atStart => exact ⟨0, true, by omega, rfl, rfl, by omega, (show true = (decide (0 < n) && (l.take 0).all unitB) by rw [decide_eq_true hn0]; simp), Below.refl _ _⟩
  case round =>
   obtain ⟨j, g, hj, rfl, rfl, hfu, HG, HBW⟩ := hrel
   clear p0 p1 p2 p3 p4 p5
   obtain ⟨p0, p1, p2, p3, p4, p5⟩ := cells6K (heap_below HN2.out HBW.out)
   by_cases hlt : j < n
   ·have hjz : (j : Int) < (n : Int) := by omega
    have hjl : j < l.length := by rw [← HNL.out]; exact hlt
    obtain ⟨b4, o4, rfl, d0⟩ := (HR2.out.below HBW.out) j hjl
    obtain ⟨x, hx⟩ : ∃ x, x = l[j] := ⟨_, rfl⟩
    rw [← hx] at d0
    have hxl : x.length ≤ 1000000000 := by rw [hx]; exact HMEM.out _ (List.getElem_mem hjl)
    obtain ⟨q, hq⟩ : ∃ q, unitB x = q := ⟨_, rfl⟩
    have HG2 := Lib.hid (show (g && q) = (decide (0 < n) && (l.take (j + 1)).all unitB) from by
     rw [all_snoc unitB l j hjl, ← hx, hq, HG.out]
     cases decide (0 < n) <;> simp)
    have HC := Lib.hid (fun W => namedR_any ⟨x.toArray⟩ W q (by rw [← hq]; exact named_unitB x))
    clear hq hx hxl hjl HG
    cases g with
    | false =>
     have HG3 := Lib.hid (show false = (decide (0 < n) && (l.take (j + 1)).all unitB) from by rw [← HG2.out]; rfl)
     go_wp2_with fail
     go_roundg (n - j)
     case measure => omega
     case rel => exact ⟨j + 1, false, by omega, by go_num, rfl, by omega, HG3, HBW⟩
    | true =>
     cases q with
     | true =>
      have HG3 := Lib.hid (show true = (decide (0 < n) && (l.take (j + 1)).all unitB) from by rw [← HG2.out]; rfl)
      go_wp2_with fail
      refine (HC.out _).mono ?_
      rintro e w3 ⟨rfl, hb⟩
      have HB3 := Lib.hid (HBW.out.trans (hb.mono HBW.out.size))
      clear hb HC p0 p1 p2 p3 p4 p5
      obtain ⟨p0, p1, p2, p3, p4, p5⟩ := cells6K (heap_below HN2.out HB3.out)
      go_wp2_with fail
      go_roundg (n - j)
      case measure => omega
      case rel => exact ⟨j + 1, true, by omega, by go_num, rfl, by omega, HG3, HB3⟩
     | false =>
      have HG3 := Lib.hid (show false = (decide (0 < n) && (l.take (j + 1)).all unitB) from by rw [← HG2.out]; rfl)
      go_wp2_with fail
      refine (HC.out _).mono ?_
      rintro e w3 ⟨rfl, hb⟩
      have HB3 := Lib.hid (HBW.out.trans (hb.mono HBW.out.size))
      clear hb HC p0 p1 p2 p3 p4 p5
      obtain ⟨p0, p1, p2, p3, p4, p5⟩ := cells6K (heap_below HN2.out HB3.out)
      go_wp2_with fail
      go_roundg (n - j)
      case measure => omega
      case rel => exact ⟨j + 1, false, by omega, by go_num, rfl, by omega, HG3, HB3⟩
   ·have hjz : ¬ (j : Int) < (n : Int) := by omega
    have HV2 := Lib.hid (show valE 6 kl v g = r from by
     rw [← HV.out, HG.out, List.take_of_length_le (by have := HNL.out; omega)])
    have HBZ := Lib.hid (HB2.out.trans (HBW.out.mono HB2.out.size))
    clear HV HG HMEM
    by_cases hv0 : v = []
    ·subst hv0
     cases kl with
     | true =>
      have HR := Lib.hid (show 0 = r by rw [← HV2.out]; unfold valE; simp)
      clear HV2
      go_wp2_with fail
      go_ret
      exact ⟨by rw [← HR.out]; rfl, HBZ.out⟩
     | false =>
      have HR := Lib.hid (show 12 = r by rw [← HV2.out]; unfold valE; simp)
      clear HV2
      go_wp2_with fail
      go_ret
      exact ⟨by rw [← HR.out]; rfl, HBZ.out⟩
    ·have b0 : List.isEmpty v = false := by cases v with | nil => exact absurd rfl hv0 | cons a t => rfl
     have b1 : (v == []) = false := by rw [beq_eq_false_iff_ne]; exact hv0
     cases g with
     | true =>
      have HR := Lib.hid (show 0 = r by rw [← HV2.out]; unfold valE; simp [hv0])
      clear HV2 hv0
      go_wp2_with fail
      go_ret
      exact ⟨by rw [← HR.out]; rfl, HBZ.out⟩
     | false =>
      have HR := Lib.hid (show 12 = r by rw [← HV2.out]; unfold valE; simp [hv0])
      clear HV2 hv0
      go_wp2_with fail
      go_ret
      exact ⟨by rw [← HR.out]; rfl, HBZ.out⟩
 ·have hz0 : ¬ (0 : Int) < (n : Int) := by omega
  have hz1 : ¬ (n : Int) > 0 := hz0
  go_wp2_with fail
  go_loopg [5, 41] (n + 1) (fun f b i wr => ∃ (j : Nat) (g : Bool), j ≤ n ∧ i = .int .i64 j ∧ b = .bool g ∧ n - j < f ∧ Hid (g = (decide (0 < n) && (l.take j).all unitB)) ∧ Hid (Below w2.heap.size w2 wr))
  case atStart => exact ⟨0, false, by omega, rfl, rfl, by omega, (show false = (decide (0 < n) && (l.take 0).all unitB) by rw [decide_eq_false hn0]; simp), Below.refl _ _⟩
  case round =>
   obtain ⟨j, g, hj, rfl, rfl, hfu, HG, HBW⟩ := hrel
   clear p0 p1 p2 p3 p4 p5
   obtain ⟨p0, p1, p2, p3, p4, p5⟩ := cells6K (heap_below HN2.out HBW.out)
   by_cases hlt : j < n
   ·exact absurd hlt (by omega)
   ·have hjz : ¬ (j : Int) < (n : Int) := by omega
    have HV2 := Lib.hid (show valE 6 kl v g = r from by
     rw [← HV.out, HG.out, List.take_of_length_le (by have := HNL.out; omega)])
    have HBZ := Lib.hid (HB2.out.trans (HBW.out.mono HB2.out.size))
    clear HV HG HMEM
    by_cases hv0 : v = []
    ·subst hv0
     cases kl with
     | true =>
      have HR := Lib.hid (show 0 = r by rw [← HV2.out]; unfold valE; simp)
      clear HV2
      go_wp2_with fail
      go_ret
      exact ⟨by rw [← HR.out]; rfl, HBZ.out⟩
     | false =>
      have HR := Lib.hid (show 12 = r by rw [← HV2.out]; unfold valE; simp)
      clear HV2
      go_wp2_with fail
      go_ret
      exact ⟨by rw [← HR.out]; rfl, HBZ.out⟩
    ·have b0 : List.isEmpty v = false := by cases v with | nil => exact absurd rfl hv0 | cons a t => rfl
     have b1 : (v == []) = false := by rw [beq_eq_false_iff_ne]; exact hv0
     cases g with
     | true =>
      have HR := Lib.hid (show 0 = r by rw [← HV2.out]; unfold valE; simp [hv0])
      clear HV2 hv0
      go_wp2_with fail
      go_ret
      exact ⟨by rw [← HR.out]; rfl, HBZ.out⟩
     | false =>
      have HR := Lib.hid (show 12 = r by rw [← HV2.out]; unfold valE; simp [hv0])
      clear HV2 hv0
      go_wp2_with fail
      go_ret
      exact ⟨by rw [← HR.out]; rfl, HBZ.out⟩
set_option maxHeartbeats 4000000 in
theorem valueRef_11 (ws : List Str) (kv : KeyV) (v : Str) (w : World) (hwn : kv.wn = ws.length) (hrow : StrRow w kv.wa ws) (hw : ws.length ≤ 4294967296) (hl : v.length ≤ 1000000000) (hf : kv.form = 11) (r : Int) (hr : valE kv.form kv.list v (rightS kv.form ws v) = r) :
  Calls Tryz.prog 16 #[.agg (encK kv).toArray, .string ⟨v.toArray⟩] w fun e w' => e = .returned (.int .i64 r) ∧ Below w.heap.size w w' := by
 have HBL := Lib.hid (fun W => blanks1_any ⟨v.toArray⟩ ⟨#[32]⟩ W (by show v.toArray.size ≤ _; simp; omega) (by decide) (blanksS v) (fldB_one [32] rfl v []))
 unfold RowsOut at HBL
 have HV0 := Lib.hid hr
 obtain ⟨ks, kn, kf, kl, kk, wa, wn, wc⟩ := kv
 simp only at hf
 subst hf
 have HROW := Lib.hid hrow
 simp only at HV0 HROW hwn
 unfold encK
 simp only
 have HN0 := Lib.hid (show (w.alloc (.cells #[.string ⟨ks.toArray⟩, .string ⟨kn.toArray⟩, .int .i64 11, .bool kl, .int .i64 kk, .slice wa wn wc] 28)).heap[w.heap.size]? = some (.cells #[.string ⟨ks.toArray⟩, .string ⟨kn.toArray⟩, .int .i64 11, .bool kl, .int .i64 kk, .slice wa wn wc] 28 (0, 0)) from heap_alloc_new w _)
 have HB0 := Lib.hid ((Below.refl w.heap.size w).alloc (Nat.le_refl _) (.cells #[.string ⟨ks.toArray⟩, .string ⟨kn.toArray⟩, .int .i64 11, .bool kl, .int .i64 kk, .slice wa wn wc] 28))
 clear hrow hr
 subst hwn
 obtain ⟨wn, hwn⟩ : ∃ wn, wn = ws.length := ⟨_, rfl⟩
 rw [← hwn] at HN0 HB0 ⊢
 have HWN := Lib.hid hwn
 clear hwn
 have HV1 := Lib.hid (show valE 11 kl v (eachB numB (blanksS v)) = r from HV0.out)
 clear HV0
 have HMX := Lib.hid (fldS_mem v.length v [] (by simp))
 have HLN := Lib.hid (blanksS_len v [])
 go_enter Tryz.func16, Tryz.ntmps16
 go_wp2_with fail
 refine (HBL.out _).mono ?_
 rintro e w2 ⟨hb2, va, rfl, hown⟩
 obtain ⟨oa, cap, rfl⟩ := ownsRow_form hown
 have HR2 := Lib.hid (StrRow.of_own hown)
 have HB2 := Lib.hid (HB0.out.trans (hb2.mono HB0.out.size))
 have HN2 := Lib.hid (heap_below HN0.out hb2)
 obtain ⟨N, hN⟩ : ∃ N, N = w.heap.size := ⟨_, rfl⟩
 rw [← hN] at HN2 ⊢
 have HNW := Lib.hid hN
 clear hb2 hown HBL HB0 HN0 hN
 obtain ⟨l, hlb⟩ : ∃ l, l = blanksS v := ⟨_, rfl⟩
 rw [← hlb] at HR2 ⊢
 obtain ⟨p0, p1, p2, p3, p4, p5⟩ := cells6K HN2.out
 have HMEM := Lib.hid (show ∀ x ∈ l, x.length ≤ 1000000000 from by rw [hlb]; intro x hx; have := HMX.out x hx; omega)
 have hll : l.length ≤ 1000000001 := by rw [hlb]; have := HLN.out; unfold blanksS; omega
 have HV := Lib.hid (show valE 11 kl v (decide (0 < l.length) && l.all numB) = r from by
  rw [← HV1.out, ← hlb]
  congr 1
  unfold eachB
  cases l <;> simp)
 obtain ⟨n, hn⟩ : ∃ n, n = l.length := ⟨_, rfl⟩
 rw [← hn] at HV hll ⊢
 have HNL := Lib.hid hn
 clear hlb hn HMX HLN HV1
 by_cases hn0 : 0 < n
 ·have hz0 : (0 : Int) < (n : Int) := by omega
  have hz1 : (n : Int) > 0 := hz0
  go_wp2_with fail
  go_loopg [5, 41] (n + 1) (fun f b i wr => ∃ (j : Nat) (g : Bool), j ≤ n ∧ i = .int .i64 j ∧ b = .bool g ∧ n - j < f ∧ Hid (g = (decide (0 < n) && (l.take j).all numB)) ∧ Hid (Below w2.heap.size w2 wr))
  case atStart => exact ⟨0, true, by omega, rfl, rfl, by omega, (show true = (decide (0 < n) && (l.take 0).all numB) by rw [decide_eq_true hn0]; simp), Below.refl _ _⟩
  case round =>
   obtain ⟨j, g, hj, rfl, rfl, hfu, HG, HBW⟩ := hrel
   clear p0 p1 p2 p3 p4 p5
   obtain ⟨p0, p1, p2, p3, p4, p5⟩ := cells6K (heap_below HN2.out HBW.out)
   by_cases hlt : j < n
   ·have hjz : (j : Int) < (n : Int) := by omega
    have hjl : j < l.length := by rw [← HNL.out]; exact hlt
    obtain ⟨b4, o4, rfl, d0⟩ := (HR2.out.below HBW.out) j hjl
    obtain ⟨x, hx⟩ : ∃ x, x = l[j] := ⟨_, rfl⟩
    rw [← hx] at d0
    have hxl : x.length ≤ 1000000000 := by rw [hx]; exact HMEM.out _ (List.getElem_mem hjl)
    obtain ⟨q, hq⟩ : ∃ q, numB x = q := ⟨_, rfl⟩
    have HG2 := Lib.hid (show (g && q) = (decide (0 < n) && (l.take (j + 1)).all numB) from by
     rw [all_snoc numB l j hjl, ← hx, hq, HG.out]
     cases decide (0 < n) <;> simp)
    obtain ⟨m, hm⟩ : ∃ m, numR x = m := ⟨_, rfl⟩
    have HC := Lib.hid (fun W => numberR_any ⟨x.toArray⟩ W m hm)
    have HGM := Lib.hid (show decide (0 ≤ m) = q by rw [← hm, numR_nonneg, ← hq]; rfl)
    clear hq hm hx hxl hjl HG
    cases g with
    | false =>
     have HG3 := Lib.hid (show false = (decide (0 < n) && (l.take (j + 1)).all numB) from by rw [← HG2.out]; rfl)
     go_wp2_with fail
     go_roundg (n - j)
     case measure => omega
     case rel => exact ⟨j + 1, false, by omega, by go_num, rfl, by omega, HG3, HBW⟩
    | true =>
     cases q with
     | true =>
      have HG3 := Lib.hid (show true = (decide (0 < n) && (l.take (j + 1)).all numB) from by rw [← HG2.out]; rfl)
      have hg1 : 0 ≤ m := by have := HGM.out; simpa using this
      have hg2 : m ≥ 0 := hg1
      go_wp2_with fail
      refine (HC.out _).mono ?_
      rintro e w3 ⟨rfl, hb⟩
      have HB3 := Lib.hid (HBW.out.trans (hb.mono HBW.out.size))
      clear hb HC p0 p1 p2 p3 p4 p5
      obtain ⟨p0, p1, p2, p3, p4, p5⟩ := cells6K (heap_below HN2.out HB3.out)
      go_wp2_with fail
      go_roundg (n - j)
      case measure => omega
      case rel => exact ⟨j + 1, true, by omega, by go_num, rfl, by omega, HG3, HB3⟩
     | false =>
      have HG3 := Lib.hid (show false = (decide (0 < n) && (l.take (j + 1)).all numB) from by rw [← HG2.out]; rfl)
      have hg0 : ¬ 0 ≤ m := by have := HGM.out; simpa using this
      have hgF : (0 ≤ m) = False := eq_false hg0
      clear hg0
      go_wp2_with fail
      refine (HC.out _).mono ?_
      rintro e w3 ⟨rfl, hb⟩
      have HB3 := Lib.hid (HBW.out.trans (hb.mono HBW.out.size))
      clear hb HC p0 p1 p2 p3 p4 p5
      obtain ⟨p0, p1, p2, p3, p4, p5⟩ := cells6K (heap_below HN2.out HB3.out)
      go_wp2_with fail
      go_roundg (n - j)
      case measure => omega
      case rel => exact ⟨j + 1, false, by omega, by go_num, rfl, by omega, HG3, HB3⟩
   ·have hjz : ¬ (j : Int) < (n : Int) := by omega
    have HV2 := Lib.hid (show valE 11 kl v g = r from by
     rw [← HV.out, HG.out, List.take_of_length_le (by have := HNL.out; omega)])
    have HBZ := Lib.hid (HB2.out.trans (HBW.out.mono HB2.out.size))
    clear HV HG HMEM
    by_cases hv0 : v = []
    ·subst hv0
     cases kl with
     | true =>
      have HR := Lib.hid (show 0 = r by rw [← HV2.out]; unfold valE; simp)
      clear HV2
      go_wp2_with fail
      go_ret
      exact ⟨by rw [← HR.out]; rfl, HBZ.out⟩
     | false =>
      have HR := Lib.hid (show 12 = r by rw [← HV2.out]; unfold valE; simp)
      clear HV2
      go_wp2_with fail
      go_ret
      exact ⟨by rw [← HR.out]; rfl, HBZ.out⟩
    ·have b0 : List.isEmpty v = false := by cases v with | nil => exact absurd rfl hv0 | cons a t => rfl
     have b1 : (v == []) = false := by rw [beq_eq_false_iff_ne]; exact hv0
     cases g with
     | true =>
      have HR := Lib.hid (show 0 = r by rw [← HV2.out]; unfold valE; simp [hv0])
      clear HV2 hv0
      go_wp2_with fail
      go_ret
      exact ⟨by rw [← HR.out]; rfl, HBZ.out⟩
     | false =>
      have HR := Lib.hid (show 12 = r by rw [← HV2.out]; unfold valE; simp [hv0])
      clear HV2 hv0
      go_wp2_with fail
      go_ret
      exact ⟨by rw [← HR.out]; rfl, HBZ.out⟩
 ·have hz0 : ¬ (0 : Int) < (n : Int) := by omega
  have hz1 : ¬ (n : Int) > 0 := hz0
  go_wp2_with fail
  go_loopg [5, 41] (n + 1) (fun f b i wr => ∃ (j : Nat) (g : Bool), j ≤ n ∧ i = .int .i64 j ∧ b = .bool g ∧ n - j < f ∧ Hid (g = (decide (0 < n) && (l.take j).all numB)) ∧ Hid (Below w2.heap.size w2 wr))
  case atStart => exact ⟨0, false, by omega, rfl, rfl, by omega, (show false = (decide (0 < n) && (l.take 0).all numB) by rw [decide_eq_false hn0]; simp), Below.refl _ _⟩
  case round =>
   obtain ⟨j, g, hj, rfl, rfl, hfu, HG, HBW⟩ := hrel
   clear p0 p1 p2 p3 p4 p5
   obtain ⟨p0, p1, p2, p3, p4, p5⟩ := cells6K (heap_below HN2.out HBW.out)
   by_cases hlt : j < n
   ·exact absurd hlt (by omega)
   ·have hjz : ¬ (j : Int) < (n : Int) := by omega
    have HV2 := Lib.hid (show valE 11 kl v g = r from by
     rw [← HV.out, HG.out, List.take_of_length_le (by have := HNL.out; omega)])
    have HBZ := Lib.hid (HB2.out.trans (HBW.out.mono HB2.out.size))
    clear HV HG HMEM
    by_cases hv0 : v = []
    ·subst hv0
     cases kl with
     | true =>
      have HR := Lib.hid (show 0 = r by rw [← HV2.out]; unfold valE; simp)
      clear HV2
      go_wp2_with fail
      go_ret
      exact ⟨by rw [← HR.out]; rfl, HBZ.out⟩
     | false =>
      have HR := Lib.hid (show 12 = r by rw [← HV2.out]; unfold valE; simp)
      clear HV2
      go_wp2_with fail
      go_ret
      exact ⟨by rw [← HR.out]; rfl, HBZ.out⟩
    ·have b0 : List.isEmpty v = false := by cases v with | nil => exact absurd rfl hv0 | cons a t => rfl
     have b1 : (v == []) = false := by rw [beq_eq_false_iff_ne]; exact hv0
     cases g with
     | true =>
      have HR := Lib.hid (show 0 = r by rw [← HV2.out]; unfold valE; simp [hv0])
      clear HV2 hv0
      go_wp2_with fail
      go_ret
      exact ⟨by rw [← HR.out]; rfl, HBZ.out⟩
     | false =>
      have HR := Lib.hid (show 12 = r by rw [← HV2.out]; unfold valE; simp [hv0])
      clear HV2 hv0
      go_wp2_with fail
      go_ret
      exact ⟨by rw [← HR.out]; rfl, HBZ.out⟩
set_option maxHeartbeats 2000000 in
theorem valueRef_out (ws : List Str) (kv : KeyV) (v : Str) (w : World) (hf : kv.form < 1 ∨ 11 < kv.form) (r : Int) (hr : valE kv.form kv.list v (rightS kv.form ws v) = r) :
  Calls Tryz.prog 16 #[.agg (encK kv).toArray, .string ⟨v.toArray⟩] w fun e w' => e = .returned (.int .i64 r) ∧ Below w.heap.size w w' := by
 have HR := Lib.hid (show 3 = r by rw [← hr]; unfold valE; rw [if_pos hf])
 obtain ⟨ks, kn, kf, kl, kk, wa, wn, wc⟩ := kv
 simp only at hf
 clear hr
 unfold encK
 simp only
 rcases hf with hf | hf
 ·have hf2 : ¬ 11 < kf := by omega
  go_enter Tryz.func16, Tryz.ntmps16
  go_wp2_with fail
  go_ret
  exact ⟨by rw [← HR.out]; rfl, (Below.refl _ _).alloc (Nat.le_refl _) _⟩
 ·have hf2 : ¬ kf < 1 := by omega
  have hf3 : kf > 11 := hf
  go_enter Tryz.func16, Tryz.ntmps16
  go_wp2_with fail
  go_ret
  exact ⟨by rw [← HR.out]; rfl, (Below.refl _ _).alloc (Nat.le_refl _) _⟩
theorem valueRef_gen (ws : List Str) (kv : KeyV) (v : Str) (w : World) (hwn : kv.wn = ws.length) (hrow : StrRow w kv.wa ws) (hw : ws.length ≤ 4294967296) (hl : v.length ≤ 1000000000) (r : Int) (hr : valE kv.form kv.list v (rightS kv.form ws v) = r) :
  Calls Tryz.prog 16 #[.agg (encK kv).toArray, .string ⟨v.toArray⟩] w fun e w' => e = .returned (.int .i64 r) ∧ Below w.heap.size w w' := by
 by_cases h1 : kv.form = 1
 ·exact valueRef_1 ws kv v w hwn hrow hw hl h1 r hr
 by_cases h2 : kv.form = 2
 ·exact valueRef_2 ws kv v w hwn hrow hw hl h2 r hr
 by_cases h3 : kv.form = 3
 ·exact valueRef_3 ws kv v w hwn hrow hw hl h3 r hr
 by_cases h4 : kv.form = 4
 ·exact valueRef_4 ws kv v w hwn hrow hw hl h4 r hr
 by_cases h5 : kv.form = 5
 ·exact valueRef_5 ws kv v w hwn hrow hw hl h5 r hr
 by_cases h6 : kv.form = 6
 ·exact valueRef_6 ws kv v w hwn hrow hw hl h6 r hr
 by_cases h7 : kv.form = 7
 ·exact valueRef_7 ws kv v w hwn hrow hw hl h7 r hr
 by_cases h8 : kv.form = 8
 ·exact valueRef_8 ws kv v w hwn hrow hw hl h8 r hr
 by_cases h9 : kv.form = 9
 ·exact valueRef_9 ws kv v w hwn hrow hw hl h9 r hr
 by_cases h10 : kv.form = 10
 ·exact valueRef_10 ws kv v w hwn hrow hw hl h10 r hr
 by_cases h11 : kv.form = 11
 ·exact valueRef_11 ws kv v w hwn hrow hw hl h11 r hr
 exact valueRef_out ws kv v w (by omega) r hr
theorem valueRef_any (k : KeyS) (kv : KeyV) (v : Str) (w : World) (hk : KvRd w kv k) (hw : k.words.length ≤ 4294967296) (hl : v.length ≤ 1000000000) (r : Int) (hr : valS v k = r) :
  Calls Tryz.prog 16 #[.agg (encK kv).toArray, .string ⟨v.toArray⟩] w fun e w' => e = .returned (.int .i64 r) ∧ Below w.heap.size w w' :=
 valueRef_gen k.words kv v w hk.wl hk.row hw hl r (by rw [← hr]; unfold valS; rw [hk.form, hk.list])
theorem value_gen (ws : List Str) (kv : KeyV) (v : Str) (w : World) (hwn : kv.wn = ws.length) (hrow : StrRow w kv.wa ws) (hw : ws.length ≤ 4294967296) (hl : v.length ≤ 1000000000) (hM : MaxAt w) (r : Int) (hr : valE kv.form kv.list v (rightS kv.form ws v) = r) :
  Calls Tryz.prog 15 #[.agg (encK kv).toArray, .string ⟨v.toArray⟩] w fun e w' => e = .returned (.int .i64 r) ∧ Below w.heap.size w w' :=
 value_any kv v w (rightS kv.form ws v) (fun W hW => right_any kv ws v W hwn hw (hrow.below hW) hl (hM.below hW)) r hr
end Go.Proofs.YtdpnahojhmkemaaGreatDoor
