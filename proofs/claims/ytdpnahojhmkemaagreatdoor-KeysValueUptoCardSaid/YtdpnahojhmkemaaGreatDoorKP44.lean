import Derived.Test.YtdpnahojhmkemaaGreatDoorKP19
import Derived.Test.YtdpnahojhmkemaaGreatDoorKP20
import Derived.Test.YtdpnahojhmkemaaGreatDoorKP24
import Derived.Test.YtdpnahojhmkemaaGreatDoorKP28
import Derived.Test.YtdpnahojhmkemaaGreatDoorKP41
import Derived.Test.YtdpnahojhmkemaaGreatDoorKP43
namespace Go.Proofs.YtdpnahojhmkemaaGreatDoor
open Go Go.RowKit
set_option linter.unusedVariables false
set_option linter.unusedSimpArgs false
set_option maxRecDepth 100000
theorem cells6K {w : World} {b : Nat} {x0 x1 x2 x3 x4 x5 : Value} {T : TypeId} (h : w.heap[b]? = some (.cells #[x0, x1, x2, x3, x4, x5] T (0, 0))) :
  w.cell? ⟨b, 0, none⟩ = some x0 ∧ w.cell? ⟨b, 1, none⟩ = some x1 ∧ w.cell? ⟨b, 2, none⟩ = some x2 ∧ w.cell? ⟨b, 3, none⟩ = some x3 ∧ w.cell? ⟨b, 4, none⟩ = some x4 ∧ w.cell? ⟨b, 5, none⟩ = some x5 := by
 obtain ⟨c, _, _, _⟩ := rd h
 exact ⟨by rw [c]; rfl, by rw [c]; rfl, by rw [c]; rfl, by rw [c]; rfl, by rw [c]; rfl, by rw [c]; rfl⟩
theorem named_unitB (s : Str) : namedB s = unitB s := named_unit s
theorem all_snoc (p : Str → Bool) (l : List Str) (k : Nat) (h : k < l.length) : (l.take (k + 1)).all p = ((l.take k).all p && p l[k]) := by
 rw [List.take_succ_eq_append_getElem h, List.all_append]
 simp
set_option maxHeartbeats 4000000 in
theorem valueRef_1 (ws : List Str) (kv : KeyV) (v : Str) (w : World) (hwn : kv.wn = ws.length) (hrow : StrRow w kv.wa ws) (hw : ws.length ≤ 4294967296) (hl : v.length ≤ 1000000000) (hf : kv.form = 1) (r : Int) (hr : valE kv.form kv.list v (rightS kv.form ws v) = r) :
  Calls Tryz.prog 16 #[.agg (encK kv).toArray, .string ⟨v.toArray⟩] w fun e w' => e = .returned (.int .i64 r) ∧ Below w.heap.size w w' := by
 have HBL := Lib.hid (fun W => blanks1_any ⟨v.toArray⟩ ⟨#[32]⟩ W (by show v.toArray.size ≤ _; simp; omega) (by decide) (blanksS v) (fldB_one [32] rfl v []))
 unfold RowsOut at HBL
 have HV0 := Lib.hid hr
 obtain ⟨ks, kn, kf, kl, kk, wa, wn, wc⟩ := kv
 simp only at hf
 subst hf
 have HROW := Lib.hid hrow
 simp only at HV0 HROW hwn
 unfold encK
 simp only
 have HN0 := Lib.hid (show (w.alloc (.cells #[.string ⟨ks.toArray⟩, .string ⟨kn.toArray⟩, .int .i64 1, .bool kl, .int .i64 kk, .slice wa wn wc] 28)).heap[w.heap.size]? = some (.cells #[.string ⟨ks.toArray⟩, .string ⟨kn.toArray⟩, .int .i64 1, .bool kl, .int .i64 kk, .slice wa wn wc] 28 (0, 0)) from heap_alloc_new w _)
 have HB0 := Lib.hid ((Below.refl w.heap.size w).alloc (Nat.le_refl _) (.cells #[.string ⟨ks.toArray⟩, .string ⟨kn.toArray⟩, .int .i64 1, .bool kl, .int .i64 kk, .slice wa wn wc] 28))
 clear hrow hr
 subst hwn
 obtain ⟨wn, hwn⟩ : ∃ wn, wn = ws.length := ⟨_, rfl⟩
 rw [← hwn] at HN0 HB0 ⊢
 have HWN := Lib.hid hwn
 clear hwn
 have HV := Lib.hid (show valE 1 kl v true = r from HV0.out)
 clear HV0
 by_cases hv0 : v = []
 ·subst hv0
  cases kl with
  | true =>
   have HR := Lib.hid (show 0 = r by rw [← HV.out]; unfold valE; simp)
   clear HV
   go_enter Tryz.func16, Tryz.ntmps16
   go_wp2_with fail
   refine (HBL.out _).mono ?_
   rintro e w2 ⟨hb2, va, rfl, hown⟩
   obtain ⟨oa, cap, rfl⟩ := ownsRow_form hown
   have HR2 := Lib.hid (StrRow.of_own hown)
   have HB2 := Lib.hid (HB0.out.trans (hb2.mono HB0.out.size))
   have HN2 := Lib.hid (heap_below HN0.out hb2)
   obtain ⟨N, hN⟩ : ∃ N, N = w.heap.size := ⟨_, rfl⟩
   rw [← hN] at HN2 ⊢
   have HNW := Lib.hid hN
   clear hb2 hown HBL HB0 HN0 hN
   obtain ⟨l, hlb⟩ : ∃ l, l = blanksS ([] : Str) := ⟨_, rfl⟩
   rw [← hlb] at HR2 ⊢
   obtain ⟨p0, p1, p2, p3, p4, p5⟩ := cells6K HN2.out
   clear hlb
   go_wp2_with fail
   go_ret
   exact ⟨by rw [← HR.out]; rfl, HB2.out⟩
  | false =>
   have HR := Lib.hid (show 0 = r by rw [← HV.out]; unfold valE; simp)
   clear HV
   go_enter Tryz.func16, Tryz.ntmps16
   go_wp2_with fail
   refine (HBL.out _).mono ?_
   rintro e w2 ⟨hb2, va, rfl, hown⟩
   obtain ⟨oa, cap, rfl⟩ := ownsRow_form hown
   have HR2 := Lib.hid (StrRow.of_own hown)
   have HB2 := Lib.hid (HB0.out.trans (hb2.mono HB0.out.size))
   have HN2 := Lib.hid (heap_below HN0.out hb2)
   obtain ⟨N, hN⟩ : ∃ N, N = w.heap.size := ⟨_, rfl⟩
   rw [← hN] at HN2 ⊢
   have HNW := Lib.hid hN
   clear hb2 hown HBL HB0 HN0 hN
   obtain ⟨l, hlb⟩ : ∃ l, l = blanksS ([] : Str) := ⟨_, rfl⟩
   rw [← hlb] at HR2 ⊢
   obtain ⟨p0, p1, p2, p3, p4, p5⟩ := cells6K HN2.out
   clear hlb
   go_wp2_with fail
   go_ret
   exact ⟨by rw [← HR.out]; rfl, HB2.out⟩
 ·have b0 : List.isEmpty v = false := by cases v with | nil => exact absurd rfl hv0 | cons a t => rfl
  have b1 : (v == []) = false := by rw [beq_eq_false_iff_ne]; exact hv0
  have HR := Lib.hid (show 0 = r by rw [← HV.out]; unfold valE; simp [hv0])
  clear HV hv0
  go_enter Tryz.func16, Tryz.ntmps16
  go_wp2_with fail
  refine (HBL.out _).mono ?_
  rintro e w2 ⟨hb2, va, rfl, hown⟩
  obtain ⟨oa, cap, rfl⟩ := ownsRow_form hown
  have HR2 := Lib.hid (StrRow.of_own hown)
  have HB2 := Lib.hid (HB0.out.trans (hb2.mono HB0.out.size))
  have HN2 := Lib.hid (heap_below HN0.out hb2)
  obtain ⟨N, hN⟩ : ∃ N, N = w.heap.size := ⟨_, rfl⟩
  rw [← hN] at HN2 ⊢
  have HNW := Lib.hid hN
  clear hb2 hown HBL HB0 HN0 hN
  obtain ⟨l, hlb⟩ : ∃ l, l = blanksS v := ⟨_, rfl⟩
  rw [← hlb] at HR2 ⊢
  obtain ⟨p0, p1, p2, p3, p4, p5⟩ := cells6K HN2.out
  clear hlb
  go_wp2_with fail
  go_ret
  exact ⟨by rw [← HR.out]; rfl, HB2.out⟩
set_option maxHeartbeats 4000000 in
theorem valueRef_2 (ws : List Str) (kv : KeyV) (v : Str) (w : World) (hwn : kv.wn = ws.length) (hrow : StrRow w kv.wa ws) (hw : ws.length ≤ 4294967296) (hl : v.length ≤ 1000000000) (hf : kv.form = 2) (r : Int) (hr : valE kv.form kv.list v (rightS kv.form ws v) = r) :
  Calls Tryz.prog 16 #[.agg (encK kv).toArray, .string ⟨v.toArray⟩] w fun e w' => e = .returned (.int .i64 r) ∧ Below w.heap.size w w' := by
 have HBL := Lib.hid (fun W => blanks1_any ⟨v.toArray⟩ ⟨#[32]⟩ W (by show v.toArray.size ≤ _; simp; omega) (by decide) (blanksS v) (fldB_one [32] rfl v []))
 unfold RowsOut at HBL
 have HV0 := Lib.hid hr
 obtain ⟨ks, kn, kf, kl, kk, wa, wn, wc⟩ := kv
 simp only at hf
 subst hf
 have HROW := Lib.hid hrow
 simp only at HV0 HROW hwn
 unfold encK
 simp only
 have HN0 := Lib.hid (show (w.alloc (.cells #[.string ⟨ks.toArray⟩, .string ⟨kn.toArray⟩, .int .i64 2, .bool kl, .int .i64 kk, .slice wa wn wc] 28)).heap[w.heap.size]? = some (.cells #[.string ⟨ks.toArray⟩, .string ⟨kn.toArray⟩, .int .i64 2, .bool kl, .int .i64 kk, .slice wa wn wc] 28 (0, 0)) from heap_alloc_new w _)
 have HB0 := Lib.hid ((Below.refl w.heap.size w).alloc (Nat.le_refl _) (.cells #[.string ⟨ks.toArray⟩, .string ⟨kn.toArray⟩, .int .i64 2, .bool kl, .int .i64 kk, .slice wa wn wc] 28))
 clear hrow hr
 subst hwn
 obtain ⟨wn, hwn⟩ : ∃ wn, wn = ws.length := ⟨_, rfl⟩
 rw [← hwn] at HN0 HB0 ⊢
 have HWN := Lib.hid hwn
 clear hwn
 obtain ⟨ok, hok⟩ : ∃ ok, yesS.contains v = ok := ⟨_, rfl⟩
 have HV := Lib.hid (show valE 2 kl v ok = r by rw [← HV0.out, ← hok]; rfl)
 have HC := Lib.hid (fun V (h : Below w.heap.size w V) => hasR_any (some ⟨V.heap.size, 0, none⟩) 6 yesS v (V.alloc (.cells (strVals yesS).toArray 9)) (by decide) (strRow_new V yesS) ok hok)
 clear hok
 clear HV0
 by_cases hv0 : v = []
 ·subst hv0
  cases kl with
  | true =>
   have HR := Lib.hid (show 0 = r by rw [← HV.out]; unfold valE; simp)
   clear HV
   go_enter Tryz.func16, Tryz.ntmps16
   go_wp2_with fail
   refine (HBL.out _).mono ?_
   rintro e w2 ⟨hb2, va, rfl, hown⟩
   obtain ⟨oa, cap, rfl⟩ := ownsRow_form hown
   have HR2 := Lib.hid (StrRow.of_own hown)
   have HB2 := Lib.hid (HB0.out.trans (hb2.mono HB0.out.size))
   have HN2 := Lib.hid (heap_below HN0.out hb2)
   obtain ⟨N, hN⟩ : ∃ N, N = w.heap.size := ⟨_, rfl⟩
   rw [← hN] at HN2 ⊢
   have HNW := Lib.hid hN
   clear hb2 hown HBL HB0 HN0 hN
   obtain ⟨l, hlb⟩ : ∃ l, l = blanksS ([] : Str) := ⟨_, rfl⟩
   rw [← hlb] at HR2 ⊢
   obtain ⟨p0, p1, p2, p3, p4, p5⟩ := cells6K HN2.out
   clear hlb
   have HB2x : Below w.heap.size w w2 := HB2.out
   have HB2X := Lib.hid HB2x
   clear HB2x
   go_wp2_with fail
   have hbA : Below w2.heap.size w2 (w2.alloc (.cells (strVals yesS).toArray 9)) := (Below.refl _ _).alloc (Nat.le_refl _) _
   have HBA := Lib.hid (HB2.out.trans (hbA.mono HB2.out.size))
   have HNA := Lib.hid (heap_below HN2.out hbA)
   clear hbA
   refine (HC.out w2 HB2X.out).mono ?_
   rintro e w3 ⟨rfl, hb⟩
   have HB3 := Lib.hid (HBA.out.trans (hb.mono HBA.out.size))
   have HN3 := Lib.hid (heap_below HNA.out hb)
   clear hb p0 p1 p2 p3 p4 p5
   obtain ⟨p0, p1, p2, p3, p4, p5⟩ := cells6K HN3.out
   go_wp2_with fail
   go_ret
   exact ⟨by rw [← HR.out]; rfl, HB3.out⟩
  | false =>
   have HR := Lib.hid (show 12 = r by rw [← HV.out]; unfold valE; simp)
   clear HV
   go_enter Tryz.func16, Tryz.ntmps16
   go_wp2_with fail
   refine (HBL.out _).mono ?_
   rintro e w2 ⟨hb2, va, rfl, hown⟩
   obtain ⟨oa, cap, rfl⟩ := ownsRow_form hown
   have HR2 := Lib.hid (StrRow.of_own hown)
   have HB2 := Lib.hid (HB0.out.trans (hb2.mono HB0.out.size))
   have HN2 := Lib.hid (heap_below HN0.out hb2)
   obtain ⟨N, hN⟩ : ∃ N, N = w.heap.size := ⟨_, rfl⟩
   rw [← hN] at HN2 ⊢
   have HNW := Lib.hid hN
   clear hb2 hown HBL HB0 HN0 hN
   obtain ⟨l, hlb⟩ : ∃ l, l = blanksS ([] : Str) := ⟨_, rfl⟩
   rw [← hlb] at HR2 ⊢
   obtain ⟨p0, p1, p2, p3, p4, p5⟩ := cells6K HN2.out
   clear hlb
   have HB2x : Below w.heap.size w w2 := HB2.out
   have HB2X := Lib.hid HB2x
   clear HB2x
   go_wp2_with fail
   have hbA : Below w2.heap.size w2 (w2.alloc (.cells (strVals yesS).toArray 9)) := (Below.refl _ _).alloc (Nat.le_refl _) _
   have HBA := Lib.hid (HB2.out.trans (hbA.mono HB2.out.size))
   have HNA := Lib.hid (heap_below HN2.out hbA)
   clear hbA
   refine (HC.out w2 HB2X.out).mono ?_
   rintro e w3 ⟨rfl, hb⟩
   have HB3 := Lib.hid (HBA.out.trans (hb.mono HBA.out.size))
   have HN3 := Lib.hid (heap_below HNA.out hb)
   clear hb p0 p1 p2 p3 p4 p5
   obtain ⟨p0, p1, p2, p3, p4, p5⟩ := cells6K HN3.out
   go_wp2_with fail
   go_ret
   exact ⟨by rw [← HR.out]; rfl, HB3.out⟩
 ·have b0 : List.isEmpty v = false := by cases v with | nil => exact absurd rfl hv0 | cons a t => rfl
  have b1 : (v == []) = false := by rw [beq_eq_false_iff_ne]; exact hv0
  cases ok with
  | true =>
   have HR := Lib.hid (show 0 = r by rw [← HV.out]; unfold valE; simp [hv0])
   clear HV hv0
   go_enter Tryz.func16, Tryz.ntmps16
   go_wp2_with fail
   refine (HBL.out _).mono ?_
   rintro e w2 ⟨hb2, va, rfl, hown⟩
   obtain ⟨oa, cap, rfl⟩ := ownsRow_form hown
   have HR2 := Lib.hid (StrRow.of_own hown)
   have HB2 := Lib.hid (HB0.out.trans (hb2.mono HB0.out.size))
   have HN2 := Lib.hid (heap_below HN0.out hb2)
   obtain ⟨N, hN⟩ : ∃ N, N = w.heap.size := ⟨_, rfl⟩
   rw [← hN] at HN2 ⊢
   have HNW := Lib.hid hN
   clear hb2 hown HBL HB0 HN0 hN
   obtain ⟨l, hlb⟩ : ∃ l, l = blanksS v := ⟨_, rfl⟩
   rw [← hlb] at HR2 ⊢
   obtain ⟨p0, p1, p2, p3, p4, p5⟩ := cells6K HN2.out
   clear hlb
   have HB2x : Below w.heap.size w w2 := HB2.out
   have HB2X := Lib.hid HB2x
   clear HB2x
   go_wp2_with fail
   have hbA : Below w2.heap.size w2 (w2.alloc (.cells (strVals yesS).toArray 9)) := (Below.refl _ _).alloc (Nat.le_refl _) _
   have HBA := Lib.hid (HB2.out.trans (hbA.mono HB2.out.size))
   have HNA := Lib.hid (heap_below HN2.out hbA)
   clear hbA
   refine (HC.out w2 HB2X.out).mono ?_
   rintro e w3 ⟨rfl, hb⟩
   have HB3 := Lib.hid (HBA.out.trans (hb.mono HBA.out.size))
   have HN3 := Lib.hid (heap_below HNA.out hb)
   clear hb p0 p1 p2 p3 p4 p5
   obtain ⟨p0, p1, p2, p3, p4, p5⟩ := cells6K HN3.out
   go_wp2_with fail
   go_ret
   exact ⟨by rw [← HR.out]; rfl, HB3.out⟩
  | false =>
   have HR := Lib.hid (show 12 = r by rw [← HV.out]; unfold valE; simp [hv0])
   clear HV hv0
   go_enter Tryz.func16, Tryz.ntmps16
   go_wp2_with fail
   refine (HBL.out _).mono ?_
   rintro e w2 ⟨hb2, va, rfl, hown⟩
   obtain ⟨oa, cap, rfl⟩ := ownsRow_form hown
   have HR2 := Lib.hid (StrRow.of_own hown)
   have HB2 := Lib.hid (HB0.out.trans (hb2.mono HB0.out.size))
   have HN2 := Lib.hid (heap_below HN0.out hb2)
   obtain ⟨N, hN⟩ : ∃ N, N = w.heap.size := ⟨_, rfl⟩
   rw [← hN] at HN2 ⊢
   have HNW := Lib.hid hN
   clear hb2 hown HBL HB0 HN0 hN
   obtain ⟨l, hlb⟩ : ∃ l, l = blanksS v := ⟨_, rfl⟩
   rw [← hlb] at HR2 ⊢
   obtain ⟨p0, p1, p2, p3, p4, p5⟩ := cells6K HN2.out
   clear hlb
   have HB2x : Below w.heap.size w w2 := HB2.out
   have HB2X := Lib.hid HB2x
   clear HB2x
   go_wp2_with fail
   have hbA : Below w2.heap.size w2 (w2.alloc (.cells (strVals yesS).toArray 9)) := (Below.refl _ _).alloc (Nat.le_refl _) _
   have HBA := Lib.hid (HB2.out.trans (hbA.mono HB2.out.size))
   have HNA := Lib.hid (heap_below HN2.out hbA)
   clear hbA
   refine (HC.out w2 HB2X.out).mono ?_
   rintro e w3 ⟨rfl, hb⟩
   have HB3 := Lib.hid (HBA.out.trans (hb.mono HBA.out.size))
   have HN3 := Lib.hid (heap_below HNA.out hb)
   clear hb p0 p1 p2 p3 p4 p5
   obtain ⟨p0, p1, p2, p3, p4, p5⟩ := cells6K HN3.out
   go_wp2_with fail
   go_ret
   exact ⟨by rw [← HR.out]; rfl, HB3.out⟩
set_option maxHeartbeats 4000000 in
theorem valueRef_3 (ws : List Str) (kv : KeyV) (v : Str) (w : World) (hwn : kv.wn = ws.length) (hrow : StrRow w kv.wa ws) (hw : ws.length ≤ 4294967296) (hl : v.length ≤ 1000000000) (hf : kv.form = 3) (r : Int) (hr : valE kv.form kv.list v (rightS kv.form ws v) = r) :
  Calls Tryz.prog 16 #[.agg (encK kv).toArray, .string ⟨v.toArray⟩] w fun e w' => e = .returned (.int .i64 r) ∧ Below w.heap.size w w' := by
 have HBL := Lib.hid (fun W => blanks1_any ⟨v.toArray⟩ ⟨#[32]⟩ W (by show v.toArray.size ≤ _; simp; omega) (by decide) (blanksS v) (fldB_one [32] rfl v []))
 unfold RowsOut at HBL
 have HV0 := Lib.hid hr
 obtain ⟨ks, kn, kf, kl, kk, wa, wn, wc⟩ := kv
 simp only at hf
 subst hf
 have HROW := Lib.hid hrow
 simp only at HV0 HROW hwn
 unfold encK
 simp only
 have HN0 := Lib.hid (show (w.alloc (.cells #[.string ⟨ks.toArray⟩, .string ⟨kn.toArray⟩, .int .i64 3, .bool kl, .int .i64 kk, .slice wa wn wc] 28)).heap[w.heap.size]? = some (.cells #[.string ⟨ks.toArray⟩, .string ⟨kn.toArray⟩, .int .i64 3, .bool kl, .int .i64 kk, .slice wa wn wc] 28 (0, 0)) from heap_alloc_new w _)
 have HB0 := Lib.hid ((Below.refl w.heap.size w).alloc (Nat.le_refl _) (.cells #[.string ⟨ks.toArray⟩, .string ⟨kn.toArray⟩, .int .i64 3, .bool kl, .int .i64 kk, .slice wa wn wc] 28))
 clear hrow hr
 subst hwn
 obtain ⟨wn, hwn⟩ : ∃ wn, wn = ws.length := ⟨_, rfl⟩
 rw [← hwn] at HN0 HB0 ⊢
 have HWN := Lib.hid hwn
 clear hwn
 obtain ⟨ok, hok⟩ : ∃ ok, numB v = ok := ⟨_, rfl⟩
 have HV := Lib.hid (show valE 3 kl v ok = r by rw [← HV0.out, ← hok]; rfl)
 obtain ⟨m, hm⟩ : ∃ m, numR v = m := ⟨_, rfl⟩
 have HC := Lib.hid (fun V => numberR_any ⟨v.toArray⟩ V m hm)
 have HG := Lib.hid (show decide (0 ≤ m) = ok by rw [← hm, numR_nonneg, ← hok]; rfl)
 clear hm
 clear hok
 clear HV0
 by_cases hv0 : v = []
 ·subst hv0
  cases kl with
  | true =>
   have HR := Lib.hid (show 0 = r by rw [← HV.out]; unfold valE; simp)
   clear HV
   go_enter Tryz.func16, Tryz.ntmps16
   go_wp2_with fail
   refine (HBL.out _).mono ?_
   rintro e w2 ⟨hb2, va, rfl, hown⟩
   obtain ⟨oa, cap, rfl⟩ := ownsRow_form hown
   have HR2 := Lib.hid (StrRow.of_own hown)
   have HB2 := Lib.hid (HB0.out.trans (hb2.mono HB0.out.size))
   have HN2 := Lib.hid (heap_below HN0.out hb2)
   obtain ⟨N, hN⟩ : ∃ N, N = w.heap.size := ⟨_, rfl⟩
   rw [← hN] at HN2 ⊢
   have HNW := Lib.hid hN
   clear hb2 hown HBL HB0 HN0 hN
   obtain ⟨l, hlb⟩ : ∃ l, l = blanksS ([] : Str) := ⟨_, rfl⟩
   rw [← hlb] at HR2 ⊢
   obtain ⟨p0, p1, p2, p3, p4, p5⟩ := cells6K HN2.out
   clear hlb
   go_wp2_with fail
   refine (HC.out _).mono ?_
   rintro e w3 ⟨rfl, hb⟩
   have HB3 := Lib.hid (HB2.out.trans (hb.mono HB2.out.size))
   have HN3 := Lib.hid (heap_below HN2.out hb)
   clear hb p0 p1 p2 p3 p4 p5
   obtain ⟨p0, p1, p2, p3, p4, p5⟩ := cells6K HN3.out
   go_wp2_with fail
   go_ret
   exact ⟨by rw [← HR.out]; rfl, HB3.out⟩
  | false =>
   have HR := Lib.hid (show 12 = r by rw [← HV.out]; unfold valE; simp)
   clear HV
   go_enter Tryz.func16, Tryz.ntmps16
   go_wp2_with fail
   refine (HBL.out _).mono ?_
   rintro e w2 ⟨hb2, va, rfl, hown⟩
   obtain ⟨oa, cap, rfl⟩ := ownsRow_form hown
   have HR2 := Lib.hid (StrRow.of_own hown)
   have HB2 := Lib.hid (HB0.out.trans (hb2.mono HB0.out.size))
   have HN2 := Lib.hid (heap_below HN0.out hb2)
   obtain ⟨N, hN⟩ : ∃ N, N = w.heap.size := ⟨_, rfl⟩
   rw [← hN] at HN2 ⊢
   have HNW := Lib.hid hN
   clear hb2 hown HBL HB0 HN0 hN
   obtain ⟨l, hlb⟩ : ∃ l, l = blanksS ([] : Str) := ⟨_, rfl⟩
   rw [← hlb] at HR2 ⊢
   obtain ⟨p0, p1, p2, p3, p4, p5⟩ := cells6K HN2.out
   clear hlb
   go_wp2_with fail
   refine (HC.out _).mono ?_
   rintro e w3 ⟨rfl, hb⟩
   have HB3 := Lib.hid (HB2.out.trans (hb.mono HB2.out.size))
   have HN3 := Lib.hid (heap_below HN2.out hb)
   clear hb p0 p1 p2 p3 p4 p5
   obtain ⟨p0, p1, p2, p3, p4, p5⟩ := cells6K HN3.out
   go_wp2_with fail
   go_ret
   exact ⟨by rw [← HR.out]; rfl, HB3.out⟩
 ·have b0 : List.isEmpty v = false := by cases v with | nil => exact absurd rfl hv0 | cons a t => rfl
  have b1 : (v == []) = false := by rw [beq_eq_false_iff_ne]; exact hv0
  cases ok with
  | true =>
   have HR := Lib.hid (show 0 = r by rw [← HV.out]; unfold valE; simp [hv0])
   clear HV hv0
   have hg1 : 0 ≤ m := by have := HG.out; simpa using this
   have hg2 : m ≥ 0 := hg1
   go_enter Tryz.func16, Tryz.ntmps16
   go_wp2_with fail
   refine (HBL.out _).mono ?_
   rintro e w2 ⟨hb2, va, rfl, hown⟩
   obtain ⟨oa, cap, rfl⟩ := ownsRow_form hown
   have HR2 := Lib.hid (StrRow.of_own hown)
   have HB2 := Lib.hid (HB0.out.trans (hb2.mono HB0.out.size))
   have HN2 := Lib.hid (heap_below HN0.out hb2)
   obtain ⟨N, hN⟩ : ∃ N, N = w.heap.size := ⟨_, rfl⟩
   rw [← hN] at HN2 ⊢
   have HNW := Lib.hid hN
   clear hb2 hown HBL HB0 HN0 hN
   obtain ⟨l, hlb⟩ : ∃ l, l = blanksS v := ⟨_, rfl⟩
   rw [← hlb] at HR2 ⊢
   obtain ⟨p0, p1, p2, p3, p4, p5⟩ := cells6K HN2.out
   clear hlb
   go_wp2_with fail
   refine (HC.out _).mono ?_
   rintro e w3 ⟨rfl, hb⟩
   have HB3 := Lib.hid (HB2.out.trans (hb.mono HB2.out.size))
   have HN3 := Lib.hid (heap_below HN2.out hb)
   clear hb p0 p1 p2 p3 p4 p5
   obtain ⟨p0, p1, p2, p3, p4, p5⟩ := cells6K HN3.out
   go_wp2_with fail
   go_ret
   exact ⟨by rw [← HR.out]; rfl, HB3.out⟩
  | false =>
   have HR := Lib.hid (show 12 = r by rw [← HV.out]; unfold valE; simp [hv0])
   clear HV hv0
   have hg0 : ¬ 0 ≤ m := by have := HG.out; simpa using this
   have hgF : (0 ≤ m) = False := eq_false hg0
   clear hg0
   go_enter Tryz.func16, Tryz.ntmps16
   go_wp2_with fail
   refine (HBL.out _).mono ?_
   rintro e w2 ⟨hb2, va, rfl, hown⟩
   obtain ⟨oa, cap, rfl⟩ := ownsRow_form hown
   have HR2 := Lib.hid (StrRow.of_own hown)
   have HB2 := Lib.hid (HB0.out.trans (hb2.mono HB0.out.size))
   have HN2 := Lib.hid (heap_below HN0.out hb2)
   obtain ⟨N, hN⟩ : ∃ N, N = w.heap.size := ⟨_, rfl⟩
   rw [← hN] at HN2 ⊢
   have HNW := Lib.hid hN
   clear hb2 hown HBL HB0 HN0 hN
   obtain ⟨l, hlb⟩ : ∃ l, l = blanksS v := ⟨_, rfl⟩
   rw [← hlb] at HR2 ⊢
   obtain ⟨p0, p1, p2, p3, p4, p5⟩ := cells6K HN2.out
   clear hlb
   go_wp2_with fail
   refine (HC.out _).mono ?_
   rintro e w3 ⟨rfl, hb⟩
   have HB3 := Lib.hid (HB2.out.trans (hb.mono HB2.out.size))
   have HN3 := Lib.hid (heap_below HN2.out hb)
   clear hb p0 p1 p2 p3 p4 p5
   obtain ⟨p0, p1, p2, p3, p4, p5⟩ := cells6K HN3.out
   go_wp2_with fail
   go_ret
   exact ⟨by rw [← HR.out]; rfl, HB3.out⟩
set_option maxHeartbeats 4000000 in
theorem valueRef_4 (ws : List Str) (kv : KeyV) (v : Str) (w : World) (hwn : kv.wn = ws.length) (hrow : StrRow w kv.wa ws) (hw : ws.length ≤ 4294967296) (hl : v.length ≤ 1000000000) (hf : kv.form = 4) (r : Int) (hr : valE kv.form kv.list v (rightS kv.form ws v) = r) :
  Calls Tryz.prog 16 #[.agg (encK kv).toArray, .string ⟨v.toArray⟩] w fun e w' => e = .returned (.int .i64 r) ∧ Below w.heap.size w w' := by
 have HBL := Lib.hid (fun W => blanks1_any ⟨v.toArray⟩ ⟨#[32]⟩ W (by show v.toArray.size ≤ _; simp; omega) (by decide) (blanksS v) (fldB_one [32] rfl v []))
 unfold RowsOut at HBL
 have HV0 := Lib.hid hr
 obtain ⟨ks, kn, kf, kl, kk, wa, wn, wc⟩ := kv
 simp only at hf
 subst hf
 have HROW := Lib.hid hrow
 simp only at HV0 HROW hwn
 unfold encK
 simp only
 have HN0 := Lib.hid (show (w.alloc (.cells #[.string ⟨ks.toArray⟩, .string ⟨kn.toArray⟩, .int .i64 4, .bool kl, .int .i64 kk, .slice wa wn wc] 28)).heap[w.heap.size]? = some (.cells #[.string ⟨ks.toArray⟩, .string ⟨kn.toArray⟩, .int .i64 4, .bool kl, .int .i64 kk, .slice wa wn wc] 28 (0, 0)) from heap_alloc_new w _)
 have HB0 := Lib.hid ((Below.refl w.heap.size w).alloc (Nat.le_refl _) (.cells #[.string ⟨ks.toArray⟩, .string ⟨kn.toArray⟩, .int .i64 4, .bool kl, .int .i64 kk, .slice wa wn wc] 28))
 clear hrow hr
 subst hwn
 obtain ⟨wn, hwn⟩ : ∃ wn, wn = ws.length := ⟨_, rfl⟩
 rw [← hwn] at HN0 HB0 ⊢
 have HWN := Lib.hid hwn
 clear hwn
 obtain ⟨ok, hok⟩ : ∃ ok, (spanS v).2 = ok := ⟨_, rfl⟩
 have HV := Lib.hid (show valE 4 kl v ok = r by rw [← HV0.out, ← hok]; rfl)
 have HC := Lib.hid (fun V => spanRef_any ⟨v.toArray⟩ V (by show v.toArray.size ≤ _; simp; omega) (spanS v).1 ok (by rw [← hok]))
 generalize (spanS v).1 = sn at HC
 clear hok
 clear HV0
 by_cases hv0 : v = []
 ·subst hv0
  cases kl with
  | true =>
   have HR := Lib.hid (show 0 = r by rw [← HV.out]; unfold valE; simp)
   clear HV
   go_enter Tryz.func16, Tryz.ntmps16
   go_wp2_with fail
   refine (HBL.out _).mono ?_
   rintro e w2 ⟨hb2, va, rfl, hown⟩
   obtain ⟨oa, cap, rfl⟩ := ownsRow_form hown
   have HR2 := Lib.hid (StrRow.of_own hown)
   have HB2 := Lib.hid (HB0.out.trans (hb2.mono HB0.out.size))
   have HN2 := Lib.hid (heap_below HN0.out hb2)
   obtain ⟨N, hN⟩ : ∃ N, N = w.heap.size := ⟨_, rfl⟩
   rw [← hN] at HN2 ⊢
   have HNW := Lib.hid hN
   clear hb2 hown HBL HB0 HN0 hN
   obtain ⟨l, hlb⟩ : ∃ l, l = blanksS ([] : Str) := ⟨_, rfl⟩
   rw [← hlb] at HR2 ⊢
   obtain ⟨p0, p1, p2, p3, p4, p5⟩ := cells6K HN2.out
   clear hlb
   go_wp2_with fail
   refine (HC.out _).mono ?_
   rintro e w3 ⟨rfl, hb⟩
   have HB3 := Lib.hid (HB2.out.trans (hb.mono HB2.out.size))
   have HN3 := Lib.hid (heap_below HN2.out hb)
   clear hb p0 p1 p2 p3 p4 p5
   obtain ⟨p0, p1, p2, p3, p4, p5⟩ := cells6K HN3.out
   go_wp2_with fail
   go_ret
   exact ⟨by rw [← HR.out]; rfl, HB3.out⟩
  | false =>
   have HR := Lib.hid (show 12 = r by rw [← HV.out]; unfold valE; simp)
   clear HV
   go_enter Tryz.func16, Tryz.ntmps16
   go_wp2_with fail
   refine (HBL.out _).mono ?_
   rintro e w2 ⟨hb2, va, rfl, hown⟩
   obtain ⟨oa, cap, rfl⟩ := ownsRow_form hown
   have HR2 := Lib.hid (StrRow.of_own hown)
   have HB2 := Lib.hid (HB0.out.trans (hb2.mono HB0.out.size))
   have HN2 := Lib.hid (heap_below HN0.out hb2)
   obtain ⟨N, hN⟩ : ∃ N, N = w.heap.size := ⟨_, rfl⟩
   rw [← hN] at HN2 ⊢
   have HNW := Lib.hid hN
   clear hb2 hown HBL HB0 HN0 hN
   obtain ⟨l, hlb⟩ : ∃ l, l = blanksS ([] : Str) := ⟨_, rfl⟩
   rw [← hlb] at HR2 ⊢
   obtain ⟨p0, p1, p2, p3, p4, p5⟩ := cells6K HN2.out
   clear hlb
   go_wp2_with fail
   refine (HC.out _).mono ?_
   rintro e w3 ⟨rfl, hb⟩
   have HB3 := Lib.hid (HB2.out.trans (hb.mono HB2.out.size))
   have HN3 := Lib.hid (heap_below HN2.out hb)
   clear hb p0 p1 p2 p3 p4 p5
   obtain ⟨p0, p1, p2, p3, p4, p5⟩ := cells6K HN3.out
   go_wp2_with fail
   go_ret
   exact ⟨by rw [← HR.out]; rfl, HB3.out⟩
 ·have b0 : List.isEmpty v = false := by cases v with | nil => exact absurd rfl hv0 | cons a t => rfl
  have b1 : (v == []) = false := by rw [beq_eq_false_iff_ne]; exact hv0
  cases ok with
  | true =>
   have HR := Lib.hid (show 0 = r by rw [← HV.out]; unfold valE; simp [hv0])
   clear HV hv0
   go_enter Tryz.func16, Tryz.ntmps16
   go_wp2_with fail
   refine (HBL.out _).mono ?_
   rintro e w2 ⟨hb2, va, rfl, hown⟩
   obtain ⟨oa, cap, rfl⟩ := ownsRow_form hown
   have HR2 := Lib.hid (StrRow.of_own hown)
   have HB2 := Lib.hid (HB0.out.trans (hb2.mono HB0.out.size))
   have HN2 := Lib.hid (heap_below HN0.out hb2)
   obtain ⟨N, hN⟩ : ∃ N, N = w.heap.size := ⟨_, rfl⟩
   rw [← hN] at HN2 ⊢
   have HNW := Lib.hid hN
   clear hb2 hown HBL HB0 HN0 hN
   obtain ⟨l, hlb⟩ : ∃ l, l = blanksS v := ⟨_, rfl⟩
   rw [← hlb] at HR2 ⊢
   obtain ⟨p0, p1, p2, p3, p4, p5⟩ := cells6K HN2.out
   clear hlb
   go_wp2_with fail
   refine (HC.out _).mono ?_
   rintro e w3 ⟨rfl, hb⟩
   have HB3 := Lib.hid (HB2.out.trans (hb.mono HB2.out.size))
   have HN3 := Lib.hid (heap_below HN2.out hb)
   clear hb p0 p1 p2 p3 p4 p5
   obtain ⟨p0, p1, p2, p3, p4, p5⟩ := cells6K HN3.out
   go_wp2_with fail
   go_ret
   exact ⟨by rw [← HR.out]; rfl, HB3.out⟩
  | false =>
   have HR := Lib.hid (show 12 = r by rw [← HV.out]; unfold valE; simp [hv0])
   clear HV hv0
   go_enter Tryz.func16, Tryz.ntmps16
   go_wp2_with fail
   refine (HBL.out _).mono ?_
   rintro e w2 ⟨hb2, va, rfl, hown⟩
   obtain ⟨oa, cap, rfl⟩ := ownsRow_form hown
   have HR2 := Lib.hid (StrRow.of_own hown)
   have HB2 := Lib.hid (HB0.out.trans (hb2.mono HB0.out.size))
   have HN2 := Lib.hid (heap_below HN0.out hb2)
   obtain ⟨N, hN⟩ : ∃ N, N = w.heap.size := ⟨_, rfl⟩
   rw [← hN] at HN2 ⊢
   have HNW := Lib.hid hN
   clear hb2 hown HBL HB0 HN0 hN
   obtain ⟨l, hlb⟩ : ∃ l, l = blanksS v := ⟨_, rfl⟩
   rw [← hlb] at HR2 ⊢
   obtain ⟨p0, p1, p2, p3, p4, p5⟩ := cells6K HN2.out
   clear hlb
   go_wp2_with fail
   refine (HC.out _).mono ?_
   rintro e w3 ⟨rfl, hb⟩
   have HB3 := Lib.hid (HB2.out.trans (hb.mono HB2.out.size))
   have HN3 := Lib.hid (heap_below HN2.out hb)
   clear hb p0 p1 p2 p3 p4 p5
   obtain ⟨p0, p1, p2, p3, p4, p5⟩ := cells6K HN3.out
   go_wp2_with fail
   go_ret
   exact ⟨by rw [← HR.out]; rfl, HB3.out⟩
set_option maxHeartbeats 4000000 in
theorem valueRef_5 (ws : List Str) (kv : KeyV) (v : Str) (w : World) (hwn : kv.wn = ws.length) (hrow : StrRow w kv.wa ws) (hw : ws.length ≤ 4294967296) (hl : v.length ≤ 1000000000) (hf : kv.form = 5) (r : Int) (hr : valE kv.form kv.list v (rightS kv.form ws v) = r) :
  Calls Tryz.prog 16 #[.agg (encK kv).toArray, .string ⟨v.toArray⟩] w fun e w' => e = .returned (.int .i64 r) ∧ Below w.heap.size w w' := by
 have HBL := Lib.hid (fun W => blanks1_any ⟨v.toArray⟩ ⟨#[32]⟩ W (by show v.toArray.size ≤ _; simp; omega) (by decide) (blanksS v) (fldB_one [32] rfl v []))
 unfold RowsOut at HBL
 have HV0 := Lib.hid hr
 obtain ⟨ks, kn, kf, kl, kk, wa, wn, wc⟩ := kv
 simp only at hf
 subst hf
 have HROW := Lib.hid hrow
 simp only at HV0 HROW hwn
 unfold encK
 simp only
 have HN0 := Lib.hid (show (w.alloc (.cells #[.string ⟨ks.toArray⟩, .string ⟨kn.toArray⟩, .int .i64 5, .bool kl, .int .i64 kk, .slice wa wn wc] 28)).heap[w.heap.size]? = some (.cells #[.string ⟨ks.toArray⟩, .string ⟨kn.toArray⟩, .int .i64 5, .bool kl, .int .i64 kk, .slice wa wn wc] 28 (0, 0)) from heap_alloc_new w _)
 have HB0 := Lib.hid ((Below.refl w.heap.size w).alloc (Nat.le_refl _) (.cells #[.string ⟨ks.toArray⟩, .string ⟨kn.toArray⟩, .int .i64 5, .bool kl, .int .i64 kk, .slice wa wn wc] 28))
 clear hrow hr
 subst hwn
 obtain ⟨wn, hwn⟩ : ∃ wn, wn = ws.length := ⟨_, rfl⟩
 rw [← hwn] at HN0 HB0 ⊢
 have HWN := Lib.hid hwn
 clear hwn
 obtain ⟨ok, hok⟩ : ∃ ok, unitB v = ok := ⟨_, rfl⟩
 have HV := Lib.hid (show valE 5 kl v ok = r by rw [← HV0.out, ← hok]; rfl)
 have HC := Lib.hid (fun V => namedR_any ⟨v.toArray⟩ V ok (by rw [← hok]; exact named_unitB v))
 clear hok
 clear HV0
 by_cases hv0 : v = []
 ·subst hv0
  cases kl with
  | true =>
   have HR := Lib.hid (show 0 = r by rw [← HV.out]; unfold valE; simp)
   clear HV
   go_enter Tryz.func16, Tryz.ntmps16
   go_wp2_with fail
   refine (HBL.out _).mono ?_
   rintro e w2 ⟨hb2, va, rfl, hown⟩
   obtain ⟨oa, cap, rfl⟩ := ownsRow_form hown
   have HR2 := Lib.hid (StrRow.of_own hown)
   have HB2 := Lib.hid (HB0.out.trans (hb2.mono HB0.out.size))
   have HN2 := Lib.hid (heap_below HN0.out hb2)
   obtain ⟨N, hN⟩ : ∃ N, N = w.heap.size := ⟨_, rfl⟩
   rw [← hN] at HN2 ⊢
   have HNW := Lib.hid hN
   clear hb2 hown HBL HB0 HN0 hN
   obtain ⟨l, hlb⟩ : ∃ l, l = blanksS ([] : Str) := ⟨_, rfl⟩
   rw [← hlb] at HR2 ⊢
   obtain ⟨p0, p1, p2, p3, p4, p5⟩ := cells6K HN2.out
   clear hlb
   go_wp2_with fail
   refine (HC.out _).mono ?_
   rintro e w3 ⟨rfl, hb⟩
   have HB3 := Lib.hid (HB2.out.trans (hb.mono HB2.out.size))
   have HN3 := Lib.hid (heap_below HN2.out hb)
   clear hb p0 p1 p2 p3 p4 p5
   obtain ⟨p0, p1, p2, p3, p4, p5⟩ := cells6K HN3.out
   go_wp2_with fail
   go_ret
   exact ⟨by rw [← HR.out]; rfl, HB3.out⟩
  | false =>
   have HR := Lib.hid (show 12 = r by rw [← HV.out]; unfold valE; simp)
   clear HV
   go_enter Tryz.func16, Tryz.ntmps16
   go_wp2_with fail
   refine (HBL.out _).mono ?_
   rintro e w2 ⟨hb2, va, rfl, hown⟩
   obtain ⟨oa, cap, rfl⟩ := ownsRow_form hown
   have HR2 := Lib.hid (StrRow.of_own hown)
   have HB2 := Lib.hid (HB0.out.trans (hb2.mono HB0.out.size))
   have HN2 := Lib.hid (heap_below HN0.out hb2)
   obtain ⟨N, hN⟩ : ∃ N, N = w.heap.size := ⟨_, rfl⟩
   rw [← hN] at HN2 ⊢
   have HNW := Lib.hid hN
   clear hb2 hown HBL HB0 HN0 hN
   obtain ⟨l, hlb⟩ : ∃ l, l = blanksS ([] : Str) := ⟨_, rfl⟩
   rw [← hlb] at HR2 ⊢
   obtain ⟨p0, p1, p2, p3, p4, p5⟩ := cells6K HN2.out
   clear hlb
   go_wp2_with fail
   refine (HC.out _).mono ?_
   rintro e w3 ⟨rfl, hb⟩
   have HB3 := Lib.hid (HB2.out.trans (hb.mono HB2.out.size))
   have HN3 := Lib.hid (heap_below HN2.out hb)
   clear hb p0 p1 p2 p3 p4 p5
   obtain ⟨p0, p1, p2, p3, p4, p5⟩ := cells6K HN3.out
   go_wp2_with fail
   go_ret
   exact ⟨by rw [← HR.out]; rfl, HB3.out⟩
 ·have b0 : List.isEmpty v = false := by cases v with | nil => exact absurd rfl hv0 | cons a t => rfl
  have b1 : (v == []) = false := by rw [beq_eq_false_iff_ne]; exact hv0
  cases ok with
  | true =>
   have HR := Lib.hid (show 0 = r by rw [← HV.out]; unfold valE; simp [hv0])
   clear HV hv0
   go_enter Tryz.func16, Tryz.ntmps16
   go_wp2_with fail
   refine (HBL.out _).mono ?_
   rintro e w2 ⟨hb2, va, rfl, hown⟩
   obtain ⟨oa, cap, rfl⟩ := ownsRow_form hown
   have HR2 := Lib.hid (StrRow.of_own hown)
   have HB2 := Lib.hid (HB0.out.trans (hb2.mono HB0.out.size))
   have HN2 := Lib.hid (heap_below HN0.out hb2)
   obtain ⟨N, hN⟩ : ∃ N, N = w.heap.size := ⟨_, rfl⟩
   rw [← hN] at HN2 ⊢
   have HNW := Lib.hid hN
   clear hb2 hown HBL HB0 HN0 hN
   obtain ⟨l, hlb⟩ : ∃ l, l = blanksS v := ⟨_, rfl⟩
   rw [← hlb] at HR2 ⊢
   obtain ⟨p0, p1, p2, p3, p4, p5⟩ := cells6K HN2.out
   clear hlb
   go_wp2_with fail
   refine (HC.out _).mono ?_
   rintro e w3 ⟨rfl, hb⟩
   have HB3 := Lib.hid (HB2.out.trans (hb.mono HB2.out.size))
   have HN3 := Lib.hid (heap_below HN2.out hb)
   clear hb p0 p1 p2 p3 p4 p5
   obtain ⟨p0, p1, p2, p3, p4, p5⟩ := cells6K HN3.out
   go_wp2_with fail
   go_ret
   exact ⟨by rw [← HR.out]; rfl, HB3.out⟩
  | false =>
   have HR := Lib.hid (show 12 = r by rw [← HV.out]; unfold valE; simp [hv0])
   clear HV hv0
   go_enter Tryz.func16, Tryz.ntmps16
   go_wp2_with fail
   refine (HBL.out _).mono ?_
   rintro e w2 ⟨hb2, va, rfl, hown⟩
   obtain ⟨oa, cap, rfl⟩ := ownsRow_form hown
   have HR2 := Lib.hid (StrRow.of_own hown)
   have HB2 := Lib.hid (HB0.out.trans (hb2.mono HB0.out.size))
   have HN2 := Lib.hid (heap_below HN0.out hb2)
   obtain ⟨N, hN⟩ : ∃ N, N = w.heap.size := ⟨_, rfl⟩
   rw [← hN] at HN2 ⊢
   have HNW := Lib.hid hN
   clear hb2 hown HBL HB0 HN0 hN
   obtain ⟨l, hlb⟩ : ∃ l, l = blanksS v := ⟨_, rfl⟩
   rw [← hlb] at HR2 ⊢
   obtain ⟨p0, p1, p2, p3, p4, p5⟩ := cells6K HN2.out
   clear hlb
   go_wp2_with fail
   refine (HC.out _).mono ?_
   rintro e w3 ⟨rfl, hb⟩
   have HB3 := Lib.hid (HB2.out.trans (hb.mono HB2.out.size))
   have HN3 := Lib.hid (heap_below HN2.out hb)
   clear hb p0 p1 p2 p3 p4 p5
   obtain ⟨p0, p1, p2, p3, p4, p5⟩ := cells6K HN3.out
   go_wp2_with fail
   go_ret
   exact ⟨by rw [← HR.out]; rfl, HB3.out⟩
set_option maxHeartbeats 4000000 in
theorem valueRef_7 (ws : List Str) (kv : KeyV) (v : Str) (w : World) (hwn : kv.wn = ws.length) (hrow : StrRow w kv.wa ws) (hw : ws.length ≤ 4294967296) (hl : v.length ≤ 1000000000) (hf : kv.form = 7) (r : Int) (hr : valE kv.form kv.list v (rightS kv.form ws v) = r) :
  Calls Tryz.prog 16 #[.agg (encK kv).toArray, .string ⟨v.toArray⟩] w fun e w' => e = .returned (.int .i64 r) ∧ Below w.heap.size w w' := by
 have HBL := Lib.hid (fun W => blanks1_any ⟨v.toArray⟩ ⟨#[32]⟩ W (by show v.toArray.size ≤ _; simp; omega) (by decide) (blanksS v) (fldB_one [32] rfl v []))
 unfold RowsOut at HBL
 have HV0 := Lib.hid hr
 obtain ⟨ks, kn, kf, kl, kk, wa, wn, wc⟩ := kv
 simp only at hf
 subst hf
 have HROW := Lib.hid hrow
 simp only at HV0 HROW hwn
 unfold encK
 simp only
 have HN0 := Lib.hid (show (w.alloc (.cells #[.string ⟨ks.toArray⟩, .string ⟨kn.toArray⟩, .int .i64 7, .bool kl, .int .i64 kk, .slice wa wn wc] 28)).heap[w.heap.size]? = some (.cells #[.string ⟨ks.toArray⟩, .string ⟨kn.toArray⟩, .int .i64 7, .bool kl, .int .i64 kk, .slice wa wn wc] 28 (0, 0)) from heap_alloc_new w _)
 have HB0 := Lib.hid ((Below.refl w.heap.size w).alloc (Nat.le_refl _) (.cells #[.string ⟨ks.toArray⟩, .string ⟨kn.toArray⟩, .int .i64 7, .bool kl, .int .i64 kk, .slice wa wn wc] 28))
 clear hrow hr
 subst hwn
 obtain ⟨wn, hwn⟩ : ∃ wn, wn = ws.length := ⟨_, rfl⟩
 rw [← hwn] at HN0 HB0 ⊢
 have HWN := Lib.hid hwn
 clear hwn
 obtain ⟨ok, hok⟩ : ∃ ok, (execS v).isSome = ok := ⟨_, rfl⟩
 have HV := Lib.hid (show valE 7 kl v ok = r by rw [← HV0.out, ← hok]; rfl)
 have HC := Lib.hid (fun V => execRef_any v V hl ok hok)
 clear hok
 clear HV0
 by_cases hv0 : v = []
 ·subst hv0
  cases kl with
  | true =>
   have HR := Lib.hid (show 0 = r by rw [← HV.out]; unfold valE; simp)
   clear HV
   go_enter Tryz.func16, Tryz.ntmps16
   go_wp2_with fail
   refine (HBL.out _).mono ?_
   rintro e w2 ⟨hb2, va, rfl, hown⟩
   obtain ⟨oa, cap, rfl⟩ := ownsRow_form hown
   have HR2 := Lib.hid (StrRow.of_own hown)
   have HB2 := Lib.hid (HB0.out.trans (hb2.mono HB0.out.size))
   have HN2 := Lib.hid (heap_below HN0.out hb2)
   obtain ⟨N, hN⟩ : ∃ N, N = w.heap.size := ⟨_, rfl⟩
   rw [← hN] at HN2 ⊢
   have HNW := Lib.hid hN
   clear hb2 hown HBL HB0 HN0 hN
   obtain ⟨l, hlb⟩ : ∃ l, l = blanksS ([] : Str) := ⟨_, rfl⟩
   rw [← hlb] at HR2 ⊢
   obtain ⟨p0, p1, p2, p3, p4, p5⟩ := cells6K HN2.out
   clear hlb
   go_wp2_with fail
   refine (HC.out _).mono ?_
   rintro e w3 ⟨⟨x, rfl, hx⟩, hb⟩
   have HB3 := Lib.hid (HB2.out.trans (hb.mono HB2.out.size))
   have HN3 := Lib.hid (heap_below HN2.out hb)
   clear hb p0 p1 p2 p3 p4 p5
   obtain ⟨p0, p1, p2, p3, p4, p5⟩ := cells6K HN3.out
   go_wp2_with fail
   go_ret
   exact ⟨by rw [← HR.out]; rfl, HB3.out⟩
  | false =>
   have HR := Lib.hid (show 12 = r by rw [← HV.out]; unfold valE; simp)
   clear HV
   go_enter Tryz.func16, Tryz.ntmps16
   go_wp2_with fail
   refine (HBL.out _).mono ?_
   rintro e w2 ⟨hb2, va, rfl, hown⟩
   obtain ⟨oa, cap, rfl⟩ := ownsRow_form hown
   have HR2 := Lib.hid (StrRow.of_own hown)
   have HB2 := Lib.hid (HB0.out.trans (hb2.mono HB0.out.size))
   have HN2 := Lib.hid (heap_below HN0.out hb2)
   obtain ⟨N, hN⟩ : ∃ N, N = w.heap.size := ⟨_, rfl⟩
   rw [← hN] at HN2 ⊢
   have HNW := Lib.hid hN
   clear hb2 hown HBL HB0 HN0 hN
   obtain ⟨l, hlb⟩ : ∃ l, l = blanksS ([] : Str) := ⟨_, rfl⟩
   rw [← hlb] at HR2 ⊢
   obtain ⟨p0, p1, p2, p3, p4, p5⟩ := cells6K HN2.out
   clear hlb
   go_wp2_with fail
   refine (HC.out _).mono ?_
   rintro e w3 ⟨⟨x, rfl, hx⟩, hb⟩
   have HB3 := Lib.hid (HB2.out.trans (hb.mono HB2.out.size))
   have HN3 := Lib.hid (heap_below HN2.out hb)
   clear hb p0 p1 p2 p3 p4 p5
   obtain ⟨p0, p1, p2, p3, p4, p5⟩ := cells6K HN3.out
   go_wp2_with fail
   go_ret
   exact ⟨by rw [← HR.out]; rfl, HB3.out⟩
 ·have b0 : List.isEmpty v = false := by cases v with | nil => exact absurd rfl hv0 | cons a t => rfl
  have b1 : (v == []) = false := by rw [beq_eq_false_iff_ne]; exact hv0
  cases ok with
  | true =>
   have HR := Lib.hid (show 0 = r by rw [← HV.out]; unfold valE; simp [hv0])
   clear HV hv0
   go_enter Tryz.func16, Tryz.ntmps16
   go_wp2_with fail
   refine (HBL.out _).mono ?_
   rintro e w2 ⟨hb2, va, rfl, hown⟩
   obtain ⟨oa, cap, rfl⟩ := ownsRow_form hown
   have HR2 := Lib.hid (StrRow.of_own hown)
   have HB2 := Lib.hid (HB0.out.trans (hb2.mono HB0.out.size))
   have HN2 := Lib.hid (heap_below HN0.out hb2)
   obtain ⟨N, hN⟩ : ∃ N, N = w.heap.size := ⟨_, rfl⟩
   rw [← hN] at HN2 ⊢
   have HNW := Lib.hid hN
   clear hb2 hown HBL HB0 HN0 hN
   obtain ⟨l, hlb⟩ : ∃ l, l = blanksS v := ⟨_, rfl⟩
   rw [← hlb] at HR2 ⊢
   obtain ⟨p0, p1, p2, p3, p4, p5⟩ := cells6K HN2.out
   clear hlb
   go_wp2_with fail
   refine (HC.out _).mono ?_
   rintro e w3 ⟨⟨x, rfl, hx⟩, hb⟩
   have HB3 := Lib.hid (HB2.out.trans (hb.mono HB2.out.size))
   have HN3 := Lib.hid (heap_below HN2.out hb)
   clear hb p0 p1 p2 p3 p4 p5
   obtain ⟨p0, p1, p2, p3, p4, p5⟩ := cells6K HN3.out
   go_wp2_with fail
   go_ret
   exact ⟨by rw [← HR.out]; rfl, HB3.out⟩
  | false =>
   have HR := Lib.hid (show 12 = r by rw [← HV.out]; unfold valE; simp [hv0])
   clear HV hv0
   go_enter Tryz.func16, Tryz.ntmps16
   go_wp2_with fail
   refine (HBL.out _).mono ?_
   rintro e w2 ⟨hb2, va, rfl, hown⟩
   obtain ⟨oa, cap, rfl⟩ := ownsRow_form hown
   have HR2 := Lib.hid (StrRow.of_own hown)
   have HB2 := Lib.hid (HB0.out.trans (hb2.mono HB0.out.size))
   have HN2 := Lib.hid (heap_below HN0.out hb2)
   obtain ⟨N, hN⟩ : ∃ N, N = w.heap.size := ⟨_, rfl⟩
   rw [← hN] at HN2 ⊢
   have HNW := Lib.hid hN
   clear hb2 hown HBL HB0 HN0 hN
   obtain ⟨l, hlb⟩ : ∃ l, l = blanksS v := ⟨_, rfl⟩
   rw [← hlb] at HR2 ⊢
   obtain ⟨p0, p1, p2, p3, p4, p5⟩ := cells6K HN2.out
   clear hlb
   go_wp2_with fail
   refine (HC.out _).mono ?_
   rintro e w3 ⟨⟨x, rfl, hx⟩, hb⟩
   have HB3 := Lib.hid (HB2.out.trans (hb.mono HB2.out.size))
   have HN3 := Lib.hid (heap_below HN2.out hb)
   clear hb p0 p1 p2 p3 p4 p5
   obtain ⟨p0, p1, p2, p3, p4, p5⟩ := cells6K HN3.out
   go_wp2_with fail
   go_ret
   exact ⟨by rw [← HR.out]; rfl, HB3.out⟩
set_option maxHeartbeats 4000000 in
theorem valueRef_8 (ws : List Str) (kv : KeyV) (v : Str) (w : World) (hwn : kv.wn = ws.length) (hrow : StrRow w kv.wa ws) (hw : ws.length ≤ 4294967296) (hl : v.length ≤ 1000000000) (hf : kv.form = 8) (r : Int) (hr : valE kv.form kv.list v (rightS kv.form ws v) = r) :
  Calls Tryz.prog 16 #[.agg (encK kv).toArray, .string ⟨v.toArray⟩] w fun e w' => e = .returned (.int .i64 r) ∧ Below w.heap.size w w' := by
 have HBL := Lib.hid (fun W => blanks1_any ⟨v.toArray⟩ ⟨#[32]⟩ W (by show v.toArray.size ≤ _; simp; omega) (by decide) (blanksS v) (fldB_one [32] rfl v []))
 unfold RowsOut at HBL
 have HV0 := Lib.hid hr
 obtain ⟨ks, kn, kf, kl, kk, wa, wn, wc⟩ := kv
 simp only at hf
 subst hf
 have HROW := Lib.hid hrow
 simp only at HV0 HROW hwn
 unfold encK
 simp only
 have HN0 := Lib.hid (show (w.alloc (.cells #[.string ⟨ks.toArray⟩, .string ⟨kn.toArray⟩, .int .i64 8, .bool kl, .int .i64 kk, .slice wa wn wc] 28)).heap[w.heap.size]? = some (.cells #[.string ⟨ks.toArray⟩, .string ⟨kn.toArray⟩, .int .i64 8, .bool kl, .int .i64 kk, .slice wa wn wc] 28 (0, 0)) from heap_alloc_new w _)
 have HB0 := Lib.hid ((Below.refl w.heap.size w).alloc (Nat.le_refl _) (.cells #[.string ⟨ks.toArray⟩, .string ⟨kn.toArray⟩, .int .i64 8, .bool kl, .int .i64 kk, .slice wa wn wc] 28))
 clear hrow hr
 subst hwn
 obtain ⟨wn, hwn⟩ : ∃ wn, wn = ws.length := ⟨_, rfl⟩
 rw [← hwn] at HN0 HB0 ⊢
 have HWN := Lib.hid hwn
 clear hwn
 obtain ⟨ok, hok⟩ : ∃ ok, (envS v).2 = ok := ⟨_, rfl⟩
 have HV := Lib.hid (show valE 8 kl v ok = r by rw [← HV0.out, ← hok]; rfl)
 have HC := Lib.hid (fun V => envRef_any ⟨v.toArray⟩ V (by show v.toArray.size ≤ _; simp; omega) ok hok)
 clear hok
 clear HV0
 by_cases hv0 : v = []
 ·subst hv0
  cases kl with
  | true =>
   have HR := Lib.hid (show 0 = r by rw [← HV.out]; unfold valE; simp)
   clear HV
   go_enter Tryz.func16, Tryz.ntmps16
   go_wp2_with fail
   refine (HBL.out _).mono ?_
   rintro e w2 ⟨hb2, va, rfl, hown⟩
   obtain ⟨oa, cap, rfl⟩ := ownsRow_form hown
   have HR2 := Lib.hid (StrRow.of_own hown)
   have HB2 := Lib.hid (HB0.out.trans (hb2.mono HB0.out.size))
   have HN2 := Lib.hid (heap_below HN0.out hb2)
   obtain ⟨N, hN⟩ : ∃ N, N = w.heap.size := ⟨_, rfl⟩
   rw [← hN] at HN2 ⊢
   have HNW := Lib.hid hN
   clear hb2 hown HBL HB0 HN0 hN
   obtain ⟨l, hlb⟩ : ∃ l, l = blanksS ([] : Str) := ⟨_, rfl⟩
   rw [← hlb] at HR2 ⊢
   obtain ⟨p0, p1, p2, p3, p4, p5⟩ := cells6K HN2.out
   clear hlb
   go_wp2_with fail
   refine (HC.out _).mono ?_
   rintro e w3 ⟨⟨x, rfl⟩, hb⟩
   have HB3 := Lib.hid (HB2.out.trans (hb.mono HB2.out.size))
   have HN3 := Lib.hid (heap_below HN2.out hb)
   clear hb p0 p1 p2 p3 p4 p5
   obtain ⟨p0, p1, p2, p3, p4, p5⟩ := cells6K HN3.out
   go_wp2_with fail
   go_ret
   exact ⟨by rw [← HR.out]; rfl, HB3.out⟩
  | false =>
   have HR := Lib.hid (show 12 = r by rw [← HV.out]; unfold valE; simp)
   clear HV
   go_enter Tryz.func16, Tryz.ntmps16
   go_wp2_with fail
   refine (HBL.out _).mono ?_
   rintro e w2 ⟨hb2, va, rfl, hown⟩
   obtain ⟨oa, cap, rfl⟩ := ownsRow_form hown
   have HR2 := Lib.hid (StrRow.of_own hown)
   have HB2 := Lib.hid (HB0.out.trans (hb2.mono HB0.out.size))
   have HN2 := Lib.hid (heap_below HN0.out hb2)
   obtain ⟨N, hN⟩ : ∃ N, N = w.heap.size := ⟨_, rfl⟩
   rw [← hN] at HN2 ⊢
   have HNW := Lib.hid hN
   clear hb2 hown HBL HB0 HN0 hN
   obtain ⟨l, hlb⟩ : ∃ l, l = blanksS ([] : Str) := ⟨_, rfl⟩
   rw [← hlb] at HR2 ⊢
   obtain ⟨p0, p1, p2, p3, p4, p5⟩ := cells6K HN2.out
   clear hlb
   go_wp2_with fail
   refine (HC.out _).mono ?_
   rintro e w3 ⟨⟨x, rfl⟩, hb⟩
   have HB3 := Lib.hid (HB2.out.trans (hb.mono HB2.out.size))
   have HN3 := Lib.hid (heap_below HN2.out hb)
   clear hb p0 p1 p2 p3 p4 p5
   obtain ⟨p0, p1, p2, p3, p4, p5⟩ := cells6K HN3.out
   go_wp2_with fail
   go_ret
   exact ⟨by rw [← HR.out]; rfl, HB3.out⟩
 ·have b0 : List.isEmpty v = false := by cases v with | nil => exact absurd rfl hv0 | cons a t => rfl
  have b1 : (v == []) = false := by rw [beq_eq_false_iff_ne]; exact hv0
  cases ok with
  | true =>
   have HR := Lib.hid (show 0 = r by rw [← HV.out]; unfold valE; simp [hv0])
   clear HV hv0
   go_enter Tryz.func16, Tryz.ntmps16
   go_wp2_with fail
   refine (HBL.out _).mono ?_
   rintro e w2 ⟨hb2, va, rfl, hown⟩
   obtain ⟨oa, cap, rfl⟩ := ownsRow_form hown
   have HR2 := Lib.hid (StrRow.of_own hown)
   have HB2 := Lib.hid (HB0.out.trans (hb2.mono HB0.out.size))
   have HN2 := Lib.hid (heap_below HN0.out hb2)
   obtain ⟨N, hN⟩ : ∃ N, N = w.heap.size := ⟨_, rfl⟩
   rw [← hN] at HN2 ⊢
   have HNW := Lib.hid hN
   clear hb2 hown HBL HB0 HN0 hN
   obtain ⟨l, hlb⟩ : ∃ l, l = blanksS v := ⟨_, rfl⟩
   rw [← hlb] at HR2 ⊢
   obtain ⟨p0, p1, p2, p3, p4, p5⟩ := cells6K HN2.out
   clear hlb
   go_wp2_with fail
   refine (HC.out _).mono ?_
   rintro e w3 ⟨⟨x, rfl⟩, hb⟩
   have HB3 := Lib.hid (HB2.out.trans (hb.mono HB2.out.size))
   have HN3 := Lib.hid (heap_below HN2.out hb)
   clear hb p0 p1 p2 p3 p4 p5
   obtain ⟨p0, p1, p2, p3, p4, p5⟩ := cells6K HN3.out
   go_wp2_with fail
   go_ret
   exact ⟨by rw [← HR.out]; rfl, HB3.out⟩
  | false =>
   have HR := Lib.hid (show 12 = r by rw [← HV.out]; unfold valE; simp [hv0])
   clear HV hv0
   go_enter Tryz.func16, Tryz.ntmps16
   go_wp2_with fail
   refine (HBL.out _).mono ?_
   rintro e w2 ⟨hb2, va, rfl, hown⟩
   obtain ⟨oa, cap, rfl⟩ := ownsRow_form hown
   have HR2 := Lib.hid (StrRow.of_own hown)
   have HB2 := Lib.hid (HB0.out.trans (hb2.mono HB0.out.size))
   have HN2 := Lib.hid (heap_below HN0.out hb2)
   obtain ⟨N, hN⟩ : ∃ N, N = w.heap.size := ⟨_, rfl⟩
   rw [← hN] at HN2 ⊢
   have HNW := Lib.hid hN
   clear hb2 hown HBL HB0 HN0 hN
   obtain ⟨l, hlb⟩ : ∃ l, l = blanksS v := ⟨_, rfl⟩
   rw [← hlb] at HR2 ⊢
   obtain ⟨p0, p1, p2, p3, p4, p5⟩ := cells6K HN2.out
   clear hlb
   go_wp2_with fail
   refine (HC.out _).mono ?_
   rintro e w3 ⟨⟨x, rfl⟩, hb⟩
   have HB3 := Lib.hid (HB2.out.trans (hb.mono HB2.out.size))
   have HN3 := Lib.hid (heap_below HN2.out hb)
   clear hb p0 p1 p2 p3 p4 p5
   obtain ⟨p0, p1, p2, p3, p4, p5⟩ := cells6K HN3.out
   go_wp2_with fail
   go_ret
   exact ⟨by rw [← HR.out]; rfl, HB3.out⟩
set_option maxHeartbeats 4000000 in
theorem valueRef_9 (ws : List Str) (kv : KeyV) (v : Str) (w : World) (hwn : kv.wn = ws.length) (hrow : StrRow w kv.wa ws) (hw : ws.length ≤ 4294967296) (hl : v.length ≤ 1000000000) (hf : kv.form = 9) (r : Int) (hr : valE kv.form kv.list v (rightS kv.form ws v) = r) :
  Calls Tryz.prog 16 #[.agg (encK kv).toArray, .string ⟨v.toArray⟩] w fun e w' => e = .returned (.int .i64 r) ∧ Below w.heap.size w w' := by
 have HBL := Lib.hid (fun W => blanks1_any ⟨v.toArray⟩ ⟨#[32]⟩ W (by show v.toArray.size ≤ _; simp; omega) (by decide) (blanksS v) (fldB_one [32] rfl v []))
 unfold RowsOut at HBL
 have HV0 := Lib.hid hr
 obtain ⟨ks, kn, kf, kl, kk, wa, wn, wc⟩ := kv
 simp only at hf
 subst hf
 have HROW := Lib.hid hrow
 simp only at HV0 HROW hwn
 unfold encK
 simp only
 have HN0 := Lib.hid (show (w.alloc (.cells #[.string ⟨ks.toArray⟩, .string ⟨kn.toArray⟩, .int .i64 9, .bool kl, .int .i64 kk, .slice wa wn wc] 28)).heap[w.heap.size]? = some (.cells #[.string ⟨ks.toArray⟩, .string ⟨kn.toArray⟩, .int .i64 9, .bool kl, .int .i64 kk, .slice wa wn wc] 28 (0, 0)) from heap_alloc_new w _)
 have HB0 := Lib.hid ((Below.refl w.heap.size w).alloc (Nat.le_refl _) (.cells #[.string ⟨ks.toArray⟩, .string ⟨kn.toArray⟩, .int .i64 9, .bool kl, .int .i64 kk, .slice wa wn wc] 28))
 clear hrow hr
 subst hwn
 obtain ⟨wn, hwn⟩ : ∃ wn, wn = ws.length := ⟨_, rfl⟩
 rw [← hwn] at HN0 HB0 ⊢
 have HWN := Lib.hid hwn
 clear hwn
 obtain ⟨ok, hok⟩ : ∃ ok, (calS v).isSome = ok := ⟨_, rfl⟩
 have HV := Lib.hid (show valE 9 kl v ok = r by rw [← HV0.out, ← hok]; rfl)
 have HC := Lib.hid (fun V => calParseR_any v V (by omega))
 rw [cal_ref, hok] at HC
 unfold CalROut at HC
 clear hok
 clear HV0
 by_cases hv0 : v = []
 ·subst hv0
  cases kl with
  | true =>
   have HR := Lib.hid (show 0 = r by rw [← HV.out]; unfold valE; simp)
   clear HV
   go_enter Tryz.func16, Tryz.ntmps16
   go_wp2_with fail
   refine (HBL.out _).mono ?_
   rintro e w2 ⟨hb2, va, rfl, hown⟩
   obtain ⟨oa, cap, rfl⟩ := ownsRow_form hown
   have HR2 := Lib.hid (StrRow.of_own hown)
   have HB2 := Lib.hid (HB0.out.trans (hb2.mono HB0.out.size))
   have HN2 := Lib.hid (heap_below HN0.out hb2)
   obtain ⟨N, hN⟩ : ∃ N, N = w.heap.size := ⟨_, rfl⟩
   rw [← hN] at HN2 ⊢
   have HNW := Lib.hid hN
   clear hb2 hown HBL HB0 HN0 hN
   obtain ⟨l, hlb⟩ : ∃ l, l = blanksS ([] : Str) := ⟨_, rfl⟩
   rw [← hlb] at HR2 ⊢
   obtain ⟨p0, p1, p2, p3, p4, p5⟩ := cells6K HN2.out
   clear hlb
   go_wp2_with fail
   refine (HC.out _).mono ?_
   rintro e w3 ⟨⟨x, rfl⟩, hb⟩
   have HB3 := Lib.hid (HB2.out.trans (hb.mono HB2.out.size))
   have HN3 := Lib.hid (heap_below HN2.out hb)
   clear hb p0 p1 p2 p3 p4 p5
   obtain ⟨p0, p1, p2, p3, p4, p5⟩ := cells6K HN3.out
   go_wp2_with fail
   go_ret
   exact ⟨by rw [← HR.out]; rfl, HB3.out⟩
  | false =>
   have HR := Lib.hid (show 12 = r by rw [← HV.out]; unfold valE; simp)
   clear HV
   go_enter Tryz.func16, Tryz.ntmps16
   go_wp2_with fail
   refine (HBL.out _).mono ?_
   rintro e w2 ⟨hb2, va, rfl, hown⟩
   obtain ⟨oa, cap, rfl⟩ := ownsRow_form hown
   have HR2 := Lib.hid (StrRow.of_own hown)
   have HB2 := Lib.hid (HB0.out.trans (hb2.mono HB0.out.size))
   have HN2 := Lib.hid (heap_below HN0.out hb2)
   obtain ⟨N, hN⟩ : ∃ N, N = w.heap.size := ⟨_, rfl⟩
   rw [← hN] at HN2 ⊢
   have HNW := Lib.hid hN
   clear hb2 hown HBL HB0 HN0 hN
   obtain ⟨l, hlb⟩ : ∃ l, l = blanksS ([] : Str) := ⟨_, rfl⟩
   rw [← hlb] at HR2 ⊢
   obtain ⟨p0, p1, p2, p3, p4, p5⟩ := cells6K HN2.out
   clear hlb
   go_wp2_with fail
   refine (HC.out _).mono ?_
   rintro e w3 ⟨⟨x, rfl⟩, hb⟩
   have HB3 := Lib.hid (HB2.out.trans (hb.mono HB2.out.size))
   have HN3 := Lib.hid (heap_below HN2.out hb)
   clear hb p0 p1 p2 p3 p4 p5
   obtain ⟨p0, p1, p2, p3, p4, p5⟩ := cells6K HN3.out
   go_wp2_with fail
   go_ret
   exact ⟨by rw [← HR.out]; rfl, HB3.out⟩
 ·have b0 : List.isEmpty v = false := by cases v with | nil => exact absurd rfl hv0 | cons a t => rfl
  have b1 : (v == []) = false := by rw [beq_eq_false_iff_ne]; exact hv0
  cases ok with
  | true =>
   have HR := Lib.hid (show 0 = r by rw [← HV.out]; unfold valE; simp [hv0])
   clear HV hv0
   go_enter Tryz.func16, Tryz.ntmps16
   go_wp2_with fail
   refine (HBL.out _).mono ?_
   rintro e w2 ⟨hb2, va, rfl, hown⟩
   obtain ⟨oa, cap, rfl⟩ := ownsRow_form hown
   have HR2 := Lib.hid (StrRow.of_own hown)
   have HB2 := Lib.hid (HB0.out.trans (hb2.mono HB0.out.size))
   have HN2 := Lib.hid (heap_below HN0.out hb2)
   obtain ⟨N, hN⟩ : ∃ N, N = w.heap.size := ⟨_, rfl⟩
   rw [← hN] at HN2 ⊢
   have HNW := Lib.hid hN
   clear hb2 hown HBL HB0 HN0 hN
   obtain ⟨l, hlb⟩ : ∃ l, l = blanksS v := ⟨_, rfl⟩
   rw [← hlb] at HR2 ⊢
   obtain ⟨p0, p1, p2, p3, p4, p5⟩ := cells6K HN2.out
   clear hlb
   go_wp2_with fail
   refine (HC.out _).mono ?_
   rintro e w3 ⟨⟨x, rfl⟩, hb⟩
   have HB3 := Lib.hid (HB2.out.trans (hb.mono HB2.out.size))
   have HN3 := Lib.hid (heap_below HN2.out hb)
   clear hb p0 p1 p2 p3 p4 p5
   obtain ⟨p0, p1, p2, p3, p4, p5⟩ := cells6K HN3.out
   go_wp2_with fail
   go_ret
   exact ⟨by rw [← HR.out]; rfl, HB3.out⟩
  | false =>
   have HR := Lib.hid (show 12 = r by rw [← HV.out]; unfold valE; simp [hv0])
   clear HV hv0
   go_enter Tryz.func16, Tryz.ntmps16
   go_wp2_with fail
   refine (HBL.out _).mono ?_
   rintro e w2 ⟨hb2, va, rfl, hown⟩
   obtain ⟨oa, cap, rfl⟩ := ownsRow_form hown
   have HR2 := Lib.hid (StrRow.of_own hown)
   have HB2 := Lib.hid (HB0.out.trans (hb2.mono HB0.out.size))
   have HN2 := Lib.hid (heap_below HN0.out hb2)
   obtain ⟨N, hN⟩ : ∃ N, N = w.heap.size := ⟨_, rfl⟩
   rw [← hN] at HN2 ⊢
   have HNW := Lib.hid hN
   clear hb2 hown HBL HB0 HN0 hN
   obtain ⟨l, hlb⟩ : ∃ l, l = blanksS v := ⟨_, rfl⟩
   rw [← hlb] at HR2 ⊢
   obtain ⟨p0, p1, p2, p3, p4, p5⟩ := cells6K HN2.out
   clear hlb
   go_wp2_with fail
   refine (HC.out _).mono ?_
   rintro e w3 ⟨⟨x, rfl⟩, hb⟩
   have HB3 := Lib.hid (HB2.out.trans (hb.mono HB2.out.size))
   have HN3 := Lib.hid (heap_below HN2.out hb)
   clear hb p0 p1 p2 p3 p4 p5
   obtain ⟨p0, p1, p2, p3, p4, p5⟩ := cells6K HN3.out
   go_wp2_with fail
   go_ret
   exact ⟨by rw [← HR.out]; rfl, HB3.out⟩
set_option maxHeartbeats 4000000 in
theorem valueRef_10 (ws : List Str) (kv : KeyV) (v : Str) (w : World) (hwn : kv.wn = ws.length) (hrow : StrRow w kv.wa ws) (hw : ws.length ≤ 4294967296) (hl : v.length ≤ 1000000000) (hf : kv.form = 10) (r : Int) (hr : valE kv.form kv.list v (rightS kv.form ws v) = r) :
  Calls Tryz.prog 16 #[.agg (encK kv).toArray, .string ⟨v.toArray⟩] w fun e w' => e = .returned (.int .i64 r) ∧ Below w.heap.size w w' := by
 have HBL := Lib.hid (fun W => blanks1_any ⟨v.toArray⟩ ⟨#[32]⟩ W (by show v.toArray.size ≤ _; simp; omega) (by decide) (blanksS v) (fldB_one [32] rfl v []))
 unfold RowsOut at HBL
 have HV0 := Lib.hid hr
 obtain ⟨ks, kn, kf, kl, kk, wa, wn, wc⟩ := kv
 simp only at hf
 subst hf
 have HROW := Lib.hid hrow
 simp only at HV0 HROW hwn
 unfold encK
 simp only
 have HN0 := Lib.hid (show (w.alloc (.cells #[.string ⟨ks.toArray⟩, .string ⟨kn.toArray⟩, .int .i64 10, .bool kl, .int .i64 kk, .slice wa wn wc] 28)).heap[w.heap.size]? = some (.cells #[.string ⟨ks.toArray⟩, .string ⟨kn.toArray⟩, .int .i64 10, .bool kl, .int .i64 kk, .slice wa wn wc] 28 (0, 0)) from heap_alloc_new w _)
 have HB0 := Lib.hid ((Below.refl w.heap.size w).alloc (Nat.le_refl _) (.cells #[.string ⟨ks.toArray⟩, .string ⟨kn.toArray⟩, .int .i64 10, .bool kl, .int .i64 kk, .slice wa wn wc] 28))
 clear hrow hr
 subst hwn
 obtain ⟨wn, hwn⟩ : ∃ wn, wn = ws.length := ⟨_, rfl⟩
 rw [← hwn] at HN0 HB0 ⊢
 have HWN := Lib.hid hwn
 clear hwn
 obtain ⟨ok, hok⟩ : ∃ ok, ws.contains v = ok := ⟨_, rfl⟩
 have HV := Lib.hid (show valE 10 kl v ok = r by rw [← HV0.out, ← hok]; rfl)
 have HC := Lib.hid (fun V (h : Below w.heap.size w V) => show Calls Tryz.prog 31 #[.slice wa wn wc, .string ⟨v.toArray⟩] V fun e w' => e = .returned (.bool ok) ∧ Below V.heap.size V w' from by rw [HWN.out]; exact hasR_any wa wc ws v V hw (HROW.out.below h) ok hok)
 clear hok
 clear HV0
 by_cases hv0 : v = []
 ·subst hv0
  cases kl with
  | true =>
   have HR := Lib.hid (show 0 = r by rw [← HV.out]; unfold valE; simp)
   clear HV
   go_enter Tryz.func16, Tryz.ntmps16
   go_wp2_with fail
   refine (HBL.out _).mono ?_
   rintro e w2 ⟨hb2, va, rfl, hown⟩
   obtain ⟨oa, cap, rfl⟩ := ownsRow_form hown
   have HR2 := Lib.hid (StrRow.of_own hown)
   have HB2 := Lib.hid (HB0.out.trans (hb2.mono HB0.out.size))
   have HN2 := Lib.hid (heap_below HN0.out hb2)
   obtain ⟨N, hN⟩ : ∃ N, N = w.heap.size := ⟨_, rfl⟩
   rw [← hN] at HN2 ⊢
   have HNW := Lib.hid hN
   clear hb2 hown HBL HB0 HN0 hN
   obtain ⟨l, hlb⟩ : ∃ l, l = blanksS ([] : Str) := ⟨_, rfl⟩
   rw [← hlb] at HR2 ⊢
   obtain ⟨p0, p1, p2, p3, p4, p5⟩ := cells6K HN2.out
   clear hlb
   have HB2x : Below w.heap.size w w2 := HB2.out
   have HB2X := Lib.hid HB2x
   clear HB2x
   go_wp2_with fail
   refine (HC.out _ (by exact HB2X.out)).mono ?_
   rintro e w3 ⟨rfl, hb⟩
   have HB3 := Lib.hid (HB2.out.trans (hb.mono HB2.out.size))
   have HN3 := Lib.hid (heap_below HN2.out hb)
   clear hb p0 p1 p2 p3 p4 p5
   obtain ⟨p0, p1, p2, p3, p4, p5⟩ := cells6K HN3.out
   go_wp2_with fail
   go_ret
   exact ⟨by rw [← HR.out]; rfl, HB3.out⟩
  | false =>
   have HR := Lib.hid (show 12 = r by rw [← HV.out]; unfold valE; simp)
   clear HV
   go_enter Tryz.func16, Tryz.ntmps16
   go_wp2_with fail
   refine (HBL.out _).mono ?_
   rintro e w2 ⟨hb2, va, rfl, hown⟩
   obtain ⟨oa, cap, rfl⟩ := ownsRow_form hown
   have HR2 := Lib.hid (StrRow.of_own hown)
   have HB2 := Lib.hid (HB0.out.trans (hb2.mono HB0.out.size))
   have HN2 := Lib.hid (heap_below HN0.out hb2)
   obtain ⟨N, hN⟩ : ∃ N, N = w.heap.size := ⟨_, rfl⟩
   rw [← hN] at HN2 ⊢
   have HNW := Lib.hid hN
   clear hb2 hown HBL HB0 HN0 hN
   obtain ⟨l, hlb⟩ : ∃ l, l = blanksS ([] : Str) := ⟨_, rfl⟩
   rw [← hlb] at HR2 ⊢
   obtain ⟨p0, p1, p2, p3, p4, p5⟩ := cells6K HN2.out
   clear hlb
   have HB2x : Below w.heap.size w w2 := HB2.out
   have HB2X := Lib.hid HB2x
   clear HB2x
   go_wp2_with fail
   refine (HC.out _ (by exact HB2X.out)).mono ?_
   rintro e w3 ⟨rfl, hb⟩
   have HB3 := Lib.hid (HB2.out.trans (hb.mono HB2.out.size))
   have HN3 := Lib.hid (heap_below HN2.out hb)
   clear hb p0 p1 p2 p3 p4 p5
   obtain ⟨p0, p1, p2, p3, p4, p5⟩ := cells6K HN3.out
   go_wp2_with fail
   go_ret
   exact ⟨by rw [← HR.out]; rfl, HB3.out⟩
 ·have b0 : List.isEmpty v = false := by cases v with | nil => exact absurd rfl hv0 | cons a t => rfl
  have b1 : (v == []) = false := by rw [beq_eq_false_iff_ne]; exact hv0
  cases ok with
  | true =>
   have HR := Lib.hid (show 0 = r by rw [← HV.out]; unfold valE; simp [hv0])
   clear HV hv0
   go_enter Tryz.func16, Tryz.ntmps16
   go_wp2_with fail
   refine (HBL.out _).mono ?_
   rintro e w2 ⟨hb2, va, rfl, hown⟩
   obtain ⟨oa, cap, rfl⟩ := ownsRow_form hown
   have HR2 := Lib.hid (StrRow.of_own hown)
   have HB2 := Lib.hid (HB0.out.trans (hb2.mono HB0.out.size))
   have HN2 := Lib.hid (heap_below HN0.out hb2)
   obtain ⟨N, hN⟩ : ∃ N, N = w.heap.size := ⟨_, rfl⟩
   rw [← hN] at HN2 ⊢
   have HNW := Lib.hid hN
   clear hb2 hown HBL HB0 HN0 hN
   obtain ⟨l, hlb⟩ : ∃ l, l = blanksS v := ⟨_, rfl⟩
   rw [← hlb] at HR2 ⊢
   obtain ⟨p0, p1, p2, p3, p4, p5⟩ := cells6K HN2.out
   clear hlb
   have HB2x : Below w.heap.size w w2 := HB2.out
   have HB2X := Lib.hid HB2x
   clear HB2x
   go_wp2_with fail
   refine (HC.out _ (by exact HB2X.out)).mono ?_
   rintro e w3 ⟨rfl, hb⟩
   have HB3 := Lib.hid (HB2.out.trans (hb.mono HB2.out.size))
   have HN3 := Lib.hid (heap_below HN2.out hb)
   clear hb p0 p1 p2 p3 p4 p5
   obtain ⟨p0, p1, p2, p3, p4, p5⟩ := cells6K HN3.out
   go_wp2_with fail
   go_ret
   exact ⟨by rw [← HR.out]; rfl, HB3.out⟩
  | false =>
   have HR := Lib.hid (show 12 = r by rw [← HV.out]; unfold valE; simp [hv0])
   clear HV hv0
   go_enter Tryz.func16, Tryz.ntmps16
   go_wp2_with fail
   refine (HBL.out _).mono ?_
   rintro e w2 ⟨hb2, va, rfl, hown⟩
   obtain ⟨oa, cap, rfl⟩ := ownsRow_form hown
   have HR2 := Lib.hid (StrRow.of_own hown)
   have HB2 := Lib.hid (HB0.out.trans (hb2.mono HB0.out.size))
   have HN2 := Lib.hid (heap_below HN0.out hb2)
   obtain ⟨N, hN⟩ : ∃ N, N = w.heap.size := ⟨_, rfl⟩
   rw [← hN] at HN2 ⊢
   have HNW := Lib.hid hN
   clear hb2 hown HBL HB0 HN0 hN
   obtain ⟨l, hlb⟩ : ∃ l, l = blanksS v := ⟨_, rfl⟩
   rw [← hlb] at HR2 ⊢
   obtain ⟨p0, p1, p2, p3, p4, p5⟩ := cells6K HN2.out
   clear hlb
   have HB2x : Below w.heap.size w w2 := HB2.out
   have HB2X := Lib.hid HB2x
   clear HB2x
   go_wp2_with fail
   refine (HC.out _ (by exact HB2X.out)).mono ?_
   rintro e w3 ⟨rfl, hb⟩
   have HB3 := Lib.hid (HB2.out.trans (hb.mono HB2.out.size))
   have HN3 := Lib.hid (heap_below HN2.out hb)
   clear hb p0 p1 p2 p3 p4 p5
   obtain ⟨p0, p1, p2, p3, p4, p5⟩ := cells6K HN3.out
   go_wp2_with fail
   go_ret
   exact ⟨by rw [← HR.out]; rfl, HB3.out⟩
end Go.Proofs.YtdpnahojhmkemaaGreatDoor
