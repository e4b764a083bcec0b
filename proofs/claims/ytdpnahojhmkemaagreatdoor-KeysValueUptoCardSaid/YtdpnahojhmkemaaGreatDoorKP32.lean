import Derived.Test.YtdpnahojhmkemaaGreatDoorKP7
import Derived.Test.YtdpnahojhmkemaaGreatDoorKP29
import Derived.Test.YtdpnahojhmkemaaGreatDoorKP31
namespace Go.Proofs.YtdpnahojhmkemaaGreatDoor
open Go Go.RowKit
set_option linter.unusedVariables false
set_option linter.unusedSimpArgs false
set_option maxRecDepth 100000
def partT : List Str → Option PartS
 | [a] => bodyS a 0
 | [a, b] => if (numC b).2 = false ∨ (numC b).1 = 0 then none else bodyS a (numC b).1
 | _ => none
theorem numC_solid (s : Str) (c : UInt8) (hc : c ∈ s) (hd : isDigit c = false) : numC s = (0, false) := by
 unfold numC
 rw [if_neg]
 unfold longB
 rw [Bool.and_eq_true, not_and]
 intro _ h
 rw [List.all_eq_true] at h
 rw [h c hc] at hd
 cases hd
theorem part_split (s : Str) : partS s = partT (splitC 47 s) := by
 have hidx : Lib.index s [47] = Lib.indexByte s 47 := Lib.index_one s 47
 rcases ib_cases 47 s with ⟨h1, h2⟩ | ⟨i, a, b, h1, h2, h3, h4⟩
 ·have hcut : Lib.cut s [47] = (s, [], false) := by
   unfold Lib.cut
   rw [hidx, h1]
   rfl
  unfold partS
  rw [hcut, splitC_one 47 s h2]
  rfl
 ·have hcut : Lib.cut s [47] = (a, b, true) := by
   unfold Lib.cut
   rw [hidx, h1, if_pos (by omega), h2]
   simp [← h3]
  unfold partS
  rw [hcut, h2, splitC_app 47 a b h4]
  simp only
  rcases ib_cases 47 b with ⟨g1, g2⟩ | ⟨i2, a2, b2, g1, g2, g3, g4⟩
  ·rw [splitC_one 47 b g2]
   rfl
  ·have hn := numC_solid b 47 (by rw [g2]; simp) (by decide)
   rw [hn]
   have hs : splitC 47 b = a2 :: splitC 47 b2 := by rw [g2]; exact splitC_app 47 a2 b2 g4
   rw [hs]
   cases h : splitC 47 b2 with
   | nil => exact absurd h (splitC_ne 47 b2)
   | cons x t => rfl
theorem numR4_yes (s : Str) (h : (numC s).2 = true) : numR4 s = (numC s).1 ∧ 0 ≤ (numC s).1 := by
 refine ⟨by unfold numR4; rw [if_pos h], ?_⟩
 unfold numC at *
 split <;> simp
theorem numR4_not (s : Str) (h : (numC s).2 = false) : numR4 s = -1 := by unfold numR4; rw [if_neg (by rw [h]; simp)]
theorem body_one (a : Str) (st : Int) (h0 : a ≠ [42]) (h : ptFrom a 0 = -1) : bodyS a st = if (numC a).2 = true then some ⟨(numC a).1, -1, st⟩ else none := by
 unfold bodyS
 rw [if_neg h0, cut_no2 a h]
 cases (numC a).2 <;> simp
theorem body_two (a : Str) (st : Int) (k : Nat) (h0 : a ≠ [42]) (h : ptFrom a 0 = k) : bodyS a st = if (numC (a.take k)).2 = true ∧ (numC (a.drop (k + 2))).2 = true then some ⟨(numC (a.take k)).1, (numC (a.drop (k + 2))).1, st⟩ else none := by
 unfold bodyS
 rw [if_neg h0, cut_yes2 a k h]
 cases (numC (a.take k)).2 <;> cases (numC (a.drop (k + 2))).2 <;> simp
theorem ex_to (s : ByteArray) (k : Nat) : s.extract k s.size = ⟨(s.data.toList.drop k).toArray⟩ := by
 apply bytes_ext; rw [Lib.extract_to_end]
theorem ex_from (s : ByteArray) (k : Nat) : s.extract 0 k = ⟨(s.data.toList.take k).toArray⟩ := by
 apply bytes_ext; rw [Lib.extract_data]; simp
theorem StrRow.fr3 {C : Nat} {w V : World} {oa : Option Addr} {l : List Str} (h : StrRow w oa l) (hf : Fr (fun k => k = C) w V) (hne : ∀ b o, oa = some ⟨b, o, none⟩ → b ≠ C ∧ b < w.heap.size) : StrRow V oa l := by
 intro i hi
 obtain ⟨b, o, e, hc⟩ := h i hi
 refine ⟨b, o, e, ?_⟩
 unfold World.cell? at hc ⊢
 rw [hf.block b (hne b o e).2 (hne b o e).1]
 exact hc
set_option maxHeartbeats 8000000 in
theorem partRef_any (s : ByteArray) (w : World) (hs : s.size ≤ 1000000000) : Calls Tryz.prog 94 #[.string s] w fun e w' => PartOut w s.data.toList e w' := by
 obtain ⟨l, hl⟩ : ∃ l, splitC 47 s.data.toList = l := ⟨_, rfl⟩
 have HSP := Lib.hid (fun W => splitRef3_any s 47 W hs l hl)
 have HMEM := Lib.hid (fun x (hx : x ∈ l) => show x.length ≤ 1000000000 from by rw [← hl] at hx; have := splitC_mem 47 _ x hx; have h2 : s.data.toList.length = s.size := (by simp); omega)
 have HPT := Lib.hid (show partS s.data.toList = partT l by rw [part_split, hl])
 have hl0 : l ≠ [] := by rw [← hl]; exact splitC_ne 47 _
 let w0 := (w.alloc (.cells #[.int .i64 0, .int .i64 0, .int .i64 0] 115)).alloc (.cells #[.int .i64 (-1), .int .i64 (-1), .int .i64 0] 115)
 have hB0 : Below w.heap.size w w0 := ((Below.refl _ _).alloc (Nat.le_refl _) _).alloc (by simp) _
 have hx0 : w0.heap[w.heap.size]? = some (.cells #[.int .i64 0, .int .i64 0, .int .i64 0] 115 (0, 0)) := heap_alloc (heap_alloc_new w _) _
 have hp0 : w0.heap[w.heap.size + 1]? = some (.cells #[.int .i64 (-1), .int .i64 (-1), .int .i64 0] 115 (0, 0)) := by
  have := heap_alloc_new (w.alloc (.cells #[.int .i64 0, .int .i64 0, .int .i64 0] 115)) (.cells #[.int .i64 (-1), .int .i64 (-1), .int .i64 0] 115)
  rw [show (w.alloc (.cells #[.int .i64 0, .int .i64 0, .int .i64 0] 115)).heap.size = w.heap.size + 1 by simp] at this
  exact this
 have hz0 : w0.heap.size = w.heap.size + 2 := by simp [w0]
 have HB0 := Lib.hid hB0; have HX0 := Lib.hid hx0; have HP0 := Lib.hid hp0; have HZ0 := Lib.hid hz0
 have HS0 := Lib.hid (HSP.out w0)
 unfold PartOut
 clear hB0 hx0 hp0 hz0 hl HSP
 go_enter Tryz.func94, Tryz.ntmps94
 go_wp2_with fail
 refine HS0.out.mono ?_
 rintro e w1 ⟨hb1, v, rfl, hown⟩
 obtain ⟨oa, cap, rfl⟩ := ownsRow_form hown
 have hz0 := HZ0.out
 have HST := Lib.hid (fun V (h : Fr (fun k => k = w.heap.size + 1) w1 V) => (StrRow.of_own hown).fr3 h (fun b o e => by
  have := hown.lt b (by rw [e]; rfl)
  omega))
 have hne4 := Lib.hid (show ∀ b o, oa = some (⟨b, o, none⟩ : Addr) → b ≠ w.heap.size + 1 from fun b o e => by
  have := hown.lt b (by rw [e]; rfl)
  omega)
 have HB1 := Lib.hid (HB0.out.trans (hb1.mono HB0.out.size))
 have HX1 := Lib.hid (heap_below HX0.out hb1)
 have HP1 := Lib.hid (heap_below HP0.out hb1)
 have HF1 := Lib.hid (Fr.refl (fun k => k = w.heap.size + 1) w1)
 have HZ1 := Lib.hid (show w.heap.size + 2 ≤ w1.heap.size by have := hb1.size; omega)
 clear hown hb1 HB0 HX0 HP0 HZ0 HS0 hz0
 clear w0
 obtain ⟨n, hn⟩ : ∃ n, n = l.length := ⟨_, rfl⟩
 rw [← hn]
 rcases l with _ | ⟨a, _ | ⟨b, _ | ⟨c, t⟩⟩⟩
 ·exact absurd rfl hl0
 ·obtain rfl : n = 1 := hn
  have HPB := Lib.hid (show partS s.data.toList = bodyS a 0 from HPT.out)
  have hal := HMEM.out a (by simp)
  obtain ⟨A, hA⟩ : ∃ A : ByteArray, A = ⟨a.toArray⟩ := ⟨_, rfl⟩
  have hAs : A.size ≤ 1000000000 := by rw [hA]; show a.toArray.size ≤ _; simpa using hal
  clear HPT HMEM hl0 hal
  obtain ⟨x0, x1, x2, y0, y1, y2⟩ := cells_of3 HX1.out
  obtain ⟨p0, p1, p2, r0, r1, r2⟩ := cells_of3 HP1.out
  obtain ⟨b4, o4, e4, -⟩ := HST.out w1 HF1.out 0 (by simp)
  subst e4
  have HA := Lib.hid (fun V (h : Fr (fun k => k = w.heap.size + 1) w1 V) => show V.cell? ⟨b4, o4, none⟩ = some (.string A) from by
   obtain ⟨b5, o5, e5, d5⟩ := HST.out V h 0 (by simp)
   injection e5 with e5; injection e5 with e6 e7
   subst e6; subst e7
   simp only [Nat.add_zero, List.getElem_cons_zero] at d5
   rw [hA]; exact d5)
  have d0 := HA.out w1 HF1.out
  cases hst : (a == [42]) with
  | true =>
   have hA2 : A = ⟨#[42]⟩ := by rw [hA, eq_of_beq hst]
   have HR := Lib.hid (show partS s.data.toList = some ⟨-1, -1, 0⟩ by rw [HPB.out]; unfold bodyS; rw [if_pos (eq_of_beq hst)])
   subst hA2
   clear HPB hA hst HA
   go_wp2_with fail
   refine bodyPost_ret (v := .tuple #[.agg #[.int .i64 (-1), .int .i64 (-1), .int .i64 0], .bool (partS s.data.toList).isSome]) ?_ rfl ⟨⟨(-1), (-1), 0⟩, rfl, ?_, ?_⟩
   ·rw [HR.out]
    simp [results, Tryz.results94, go_sem, x0, x1, x2, p0, p1, p2]
   ·rw [HR.out]; intro q hq; first | (cases hq; done) | (injection hq)
   ·exact (((HB1.out.setCell (p := ⟨w.heap.size, 0, none⟩) (Nat.le_refl _) _).setCell (p := ⟨w.heap.size, 1, none⟩) (Nat.le_refl _) _).setCell (p := ⟨w.heap.size, 2, none⟩) (Nat.le_refl _) _)
  | false =>
   have hst2 : a ≠ [42] := by rw [beq_eq_false_iff_ne] at hst; exact hst
   have hAx : A.data.toList = a := by rw [hA]
   have hne : (A.toList == [42]) = false := by
    rw [beq_eq_false_iff_ne, ByteArray.toList_eq, hAx]; exact hst2
   have HPT2 := Lib.hid (fun W => points_any A W hAs (ptFrom a 0) (by rw [hAx]))
   rcases ptFrom_cases a 0 with hq | ⟨k, hq, -, hkl⟩
   ·have HPB2 := Lib.hid (show partS s.data.toList = if (numC a).2 = true then some ⟨(numC a).1, -1, 0⟩ else none by rw [HPB.out, body_one a _ hst2 hq])
    obtain ⟨m1, hm1⟩ : ∃ m, numR4 a = m := ⟨_, rfl⟩
    have HN1 := Lib.hid (fun W => number4_any A W m1 (by rw [hAx]; exact hm1))
    rw [hq] at HPT2
    cases hnc : (numC a).2 with
    | true =>
     obtain ⟨q1, q2⟩ := numR4_yes a hnc
     have HR := Lib.hid (show partS s.data.toList = some ⟨m1, -1, 0⟩ by rw [HPB2.out, hnc, if_pos rfl, ← hm1, q1])
     have hge : (0 : Int) ≤ m1 := by rw [← hm1, q1]; exact q2
     have hge2 : m1 ≥ (0 : Int) := hge
     clear q1 q2
     clear hnc hm1 HPB2 HPB hq hst hst2 hAx hA
     go_wp2_with fail
     first | (refine (HPT2.out _).mono ?_) | (go_at_call 127; refine (HPT2.out _).mono ?_)
     rintro e w2 ⟨rfl, hb⟩
     have HB2 := Lib.hid (HB1.out.trans (hb.mono HB1.out.size))
     have HX2 := Lib.hid (heap_below HX1.out hb)
     have HP2 := Lib.hid (heap_below HP1.out hb)
     have HF2 := Lib.hid (HF1.out.trans (Fr.of_below hb _))
     clear hb HPT2 d0
     try clear d1 hb4 hb5
     clear x0 x1 x2 y0 y1 y2 p0 p1 p2 r0 r1 r2
     have d0 := HA.out w2 HF2.out
     obtain ⟨x0, x1, x2, y0, y1, y2⟩ := cells_of3 HX2.out
     obtain ⟨p0, p1, p2, r0, r1, r2⟩ := cells_of3 HP2.out
     go_wp2_with fail
     refine (HN1.out _).mono ?_
     rintro e w3 ⟨rfl, hb⟩
     have HB3 := Lib.hid (HB2.out.trans (hb.mono HB2.out.size))
     have HX3 := Lib.hid (heap_below HX2.out hb)
     have HP3 := Lib.hid (heap_below HP2.out hb)
     clear hb HN1 d0 HA
     clear x0 x1 x2 y0 y1 y2 p0 p1 p2 r0 r1 r2
     obtain ⟨x0, x1, x2, y0, y1, y2⟩ := cells_of3 HX3.out
     obtain ⟨p0, p1, p2, r0, r1, r2⟩ := cells_of3 HP3.out
     go_wp2_with fail
     have HP9 := Lib.hid (show (w3.setCell ⟨w.heap.size + 1, 0, none⟩ (.int .i64 m1)).heap[w.heap.size + 1]? = some (.cells #[.int .i64 m1, .int .i64 (-1), .int .i64 0] 115 (0, 0)) from heap_setCell HP3.out 0 (.int .i64 m1))
     have HX9 := Lib.hid (heap_other HX3.out (a := ⟨w.heap.size + 1, 0, none⟩) (by simp) (.int .i64 m1))
     have HB9 := Lib.hid (HB3.out.setCell (p := ⟨w.heap.size + 1, 0, none⟩) (by simp) (.int .i64 m1))
     clear x0 x1 x2 y0 y1 y2 p0 p1 p2 r0 r1 r2
     generalize w3.setCell ⟨w.heap.size + 1, 0, none⟩ (.int .i64 m1) = w9 at *
     refine wp_region_drawT (S := fun V => V.heap[w.heap.size + 1]? = some (.cells #[.int .i64 m1, .int .i64 (-1), .int .i64 0] 115 (0, 0))) 5 (by kernel_rfl) (by kernel_rfl) (by exact HP9.out) (fun hHeld => ?_)
     try simp only [Act.put, List.setIfInBounds_toArray, List.set_cons_zero, List.set_cons_succ]
     refine drawT_take (i := 0) (v := .agg #[.int .i64 m1, .int .i64 (-1), .int .i64 0]) (List.getElem?_toArray.trans rfl) (by kernel_rfl) (by kernel_rfl) (by kernel_rfl) (by kernel_rfl) (fun _ _ _ h => h) (Or.inl ⟨by rfl, fun W hW => by obtain ⟨p0, p1, p2, -, -, -⟩ := cells_of3 hW; clear hW; go_simp⟩) (by assumption) ?_
     try simp only [Act.put, List.setIfInBounds_toArray, List.set_cons_zero, List.set_cons_succ]
     refine drawT_take (i := 1) (v := .pointer (some ⟨w.heap.size + 1, 0, none⟩)) (List.getElem?_toArray.trans rfl) (by kernel_rfl) (by kernel_rfl) (by kernel_rfl) (by kernel_rfl) (fun _ _ _ h => h) (Or.inl ⟨by rfl, fun W hW => by obtain ⟨p0, p1, p2, -, -, -⟩ := cells_of3 hW; clear hW; go_simp⟩) (by assumption) ?_
     try simp only [Act.put, List.setIfInBounds_toArray, List.set_cons_zero, List.set_cons_succ]
     refine drawT_take (i := 2) (v := .int .i64 m1) (List.getElem?_toArray.trans rfl) (by kernel_rfl) (by kernel_rfl) (by kernel_rfl) (by kernel_rfl) (fun _ _ _ h => h) (Or.inl ⟨by rfl, fun W hW => by obtain ⟨p0, p1, p2, -, -, -⟩ := cells_of3 hW; clear hW; go_simp⟩) (by assumption) ?_
     try simp only [Act.put, List.setIfInBounds_toArray, List.set_cons_zero, List.set_cons_succ]
     refine drawT_take (i := 3) (v := .bool true) (List.getElem?_toArray.trans rfl) (by kernel_rfl) (by kernel_rfl) (by kernel_rfl) (by kernel_rfl) (fun _ _ _ h => h) (Or.inl ⟨by rfl, fun W hW => by obtain ⟨p0, p1, p2, -, -, -⟩ := cells_of3 hW; clear hW; go_simp⟩) (by assumption) ?_
     try simp only [Act.put, List.setIfInBounds_toArray, List.set_cons_zero, List.set_cons_succ]
     obtain ⟨x0, x1, x2, y0, y1, y2⟩ := cells_of3 HX9.out
     refine drawT_one (i := 4) (List.getElem?_toArray.trans rfl) (by kernel_rfl) (by kernel_rfl) (fun K hK => ?_)
     clear hHeld
     rw [if_pos (by rfl)]
     go_simp
     refine hK.out _ _ (by exact heap_other (heap_other (heap_other HP9.out (a := ⟨w.heap.size, 0, none⟩) (by simp) _) (a := ⟨w.heap.size, 1, none⟩) (by simp) _) (a := ⟨w.heap.size, 2, none⟩) (by simp) _) (fun hHeld => ?_)
     clear hK K
     try simp only [Act.put, List.setIfInBounds_toArray, List.set_cons_zero, List.set_cons_succ]
     refine drawT_done (by kernel_rfl) ?_
     clear hHeld
     go_wp2_with fail
     try clear p0 p1 p2 r0 r1 r2
     obtain ⟨p0, p1, p2, r0, r1, r2⟩ := cells_of3 HP9.out
     refine bodyPost_ret (v := .tuple #[.agg #[.int .i64 m1, .int .i64 (-1), .int .i64 0], .bool (partS s.data.toList).isSome]) ?_ rfl ⟨⟨m1, (-1), 0⟩, rfl, ?_, ?_⟩
     ·rw [HR.out]
      simp [results, Tryz.results94, go_sem, x0, x1, x2, p0, p1, p2]
     ·rw [HR.out]; intro q hq; first | (cases hq; done) | (injection hq)
     ·exact (((HB9.out.setCell (p := ⟨w.heap.size, 0, none⟩) (Nat.le_refl _) _).setCell (p := ⟨w.heap.size, 1, none⟩) (Nat.le_refl _) _).setCell (p := ⟨w.heap.size, 2, none⟩) (Nat.le_refl _) _).trans (below_dn ⟨1, rfl⟩)
    | false =>
     have HR := Lib.hid (show partS s.data.toList = none by rw [HPB2.out, hnc]; simp)
     have hge : m1 < (0 : Int) := by rw [← hm1, numR4_not a hnc]; decide
     have hge2 : ¬ m1 ≥ (0 : Int) := by omega
     have hge3 : ¬ (0 : Int) ≤ m1 := by omega
     clear hnc hm1 HPB2 HPB hq hst hst2 hAx hA
     go_wp2_with fail
     first | (refine (HPT2.out _).mono ?_) | (go_at_call 127; refine (HPT2.out _).mono ?_)
     rintro e w2 ⟨rfl, hb⟩
     have HB2 := Lib.hid (HB1.out.trans (hb.mono HB1.out.size))
     have HX2 := Lib.hid (heap_below HX1.out hb)
     have HP2 := Lib.hid (heap_below HP1.out hb)
     have HF2 := Lib.hid (HF1.out.trans (Fr.of_below hb _))
     clear hb HPT2 d0
     try clear d1 hb4 hb5
     clear x0 x1 x2 y0 y1 y2 p0 p1 p2 r0 r1 r2
     have d0 := HA.out w2 HF2.out
     obtain ⟨x0, x1, x2, y0, y1, y2⟩ := cells_of3 HX2.out
     obtain ⟨p0, p1, p2, r0, r1, r2⟩ := cells_of3 HP2.out
     go_wp2_with fail
     refine (HN1.out _).mono ?_
     rintro e w3 ⟨rfl, hb⟩
     have HB3 := Lib.hid (HB2.out.trans (hb.mono HB2.out.size))
     have HX3 := Lib.hid (heap_below HX2.out hb)
     have HP3 := Lib.hid (heap_below HP2.out hb)
     clear hb HN1 d0 HA
     clear x0 x1 x2 y0 y1 y2 p0 p1 p2 r0 r1 r2
     obtain ⟨x0, x1, x2, y0, y1, y2⟩ := cells_of3 HX3.out
     obtain ⟨p0, p1, p2, r0, r1, r2⟩ := cells_of3 HP3.out
     go_wp2_with fail
     have HP9 := Lib.hid (show (w3.setCell ⟨w.heap.size + 1, 0, none⟩ (.int .i64 m1)).heap[w.heap.size + 1]? = some (.cells #[.int .i64 m1, .int .i64 (-1), .int .i64 0] 115 (0, 0)) from heap_setCell HP3.out 0 (.int .i64 m1))
     have HX9 := Lib.hid (heap_other HX3.out (a := ⟨w.heap.size + 1, 0, none⟩) (by simp) (.int .i64 m1))
     have HB9 := Lib.hid (HB3.out.setCell (p := ⟨w.heap.size + 1, 0, none⟩) (by simp) (.int .i64 m1))
     clear x0 x1 x2 y0 y1 y2 p0 p1 p2 r0 r1 r2
     generalize w3.setCell ⟨w.heap.size + 1, 0, none⟩ (.int .i64 m1) = w9 at *
     refine wp_region_drawT (S := fun V => V.heap[w.heap.size + 1]? = some (.cells #[.int .i64 m1, .int .i64 (-1), .int .i64 0] 115 (0, 0))) 5 (by kernel_rfl) (by kernel_rfl) (by exact HP9.out) (fun hHeld => ?_)
     try simp only [Act.put, List.setIfInBounds_toArray, List.set_cons_zero, List.set_cons_succ]
     refine drawT_take (i := 0) (v := .agg #[.int .i64 m1, .int .i64 (-1), .int .i64 0]) (List.getElem?_toArray.trans rfl) (by kernel_rfl) (by kernel_rfl) (by kernel_rfl) (by kernel_rfl) (fun _ _ _ h => h) (Or.inl ⟨by rfl, fun W hW => by obtain ⟨p0, p1, p2, -, -, -⟩ := cells_of3 hW; clear hW; go_simp⟩) (by assumption) ?_
     try simp only [Act.put, List.setIfInBounds_toArray, List.set_cons_zero, List.set_cons_succ]
     refine drawT_take (i := 1) (v := .pointer (some ⟨w.heap.size + 1, 0, none⟩)) (List.getElem?_toArray.trans rfl) (by kernel_rfl) (by kernel_rfl) (by kernel_rfl) (by kernel_rfl) (fun _ _ _ h => h) (Or.inl ⟨by rfl, fun W hW => by obtain ⟨p0, p1, p2, -, -, -⟩ := cells_of3 hW; clear hW; go_simp⟩) (by assumption) ?_
     try simp only [Act.put, List.setIfInBounds_toArray, List.set_cons_zero, List.set_cons_succ]
     refine drawT_take (i := 2) (v := .int .i64 m1) (List.getElem?_toArray.trans rfl) (by kernel_rfl) (by kernel_rfl) (by kernel_rfl) (by kernel_rfl) (fun _ _ _ h => h) (Or.inl ⟨by rfl, fun W hW => by obtain ⟨p0, p1, p2, -, -, -⟩ := cells_of3 hW; clear hW; go_simp⟩) (by assumption) ?_
     try simp only [Act.put, List.setIfInBounds_toArray, List.set_cons_zero, List.set_cons_succ]
     refine drawT_take (i := 3) (v := .bool false) (List.getElem?_toArray.trans rfl) (by kernel_rfl) (by kernel_rfl) (by kernel_rfl) (by kernel_rfl) (fun _ _ _ h => h) (Or.inl ⟨by rfl, fun W hW => by obtain ⟨p0, p1, p2, -, -, -⟩ := cells_of3 hW; clear hW; go_simp⟩) (by assumption) ?_
     try simp only [Act.put, List.setIfInBounds_toArray, List.set_cons_zero, List.set_cons_succ]
     obtain ⟨x0, x1, x2, y0, y1, y2⟩ := cells_of3 HX9.out
     refine drawT_one (i := 4) (List.getElem?_toArray.trans rfl) (by kernel_rfl) (by kernel_rfl) (fun K hK => ?_)
     clear hHeld
     rw [if_pos (by rfl)]
     go_simp
     refine hK.out _ _ (by exact heap_other (heap_other (heap_other HP9.out (a := ⟨w.heap.size, 0, none⟩) (by simp) _) (a := ⟨w.heap.size, 1, none⟩) (by simp) _) (a := ⟨w.heap.size, 2, none⟩) (by simp) _) (fun hHeld => ?_)
     clear hK K
     try simp only [Act.put, List.setIfInBounds_toArray, List.set_cons_zero, List.set_cons_succ]
     refine drawT_done (by kernel_rfl) ?_
     clear hHeld
     go_wp2_with fail
     try clear p0 p1 p2 r0 r1 r2
     obtain ⟨p0, p1, p2, r0, r1, r2⟩ := cells_of3 HP9.out
     refine bodyPost_ret (v := .tuple #[.agg #[.int .i64 m1, .int .i64 (-1), .int .i64 0], .bool (partS s.data.toList).isSome]) ?_ rfl ⟨⟨m1, (-1), 0⟩, rfl, ?_, ?_⟩
     ·rw [HR.out]
      simp [results, Tryz.results94, go_sem, x0, x1, x2, p0, p1, p2]
     ·rw [HR.out]; intro q hq; first | (cases hq; done) | (injection hq)
     ·exact (((HB9.out.setCell (p := ⟨w.heap.size, 0, none⟩) (Nat.le_refl _) _).setCell (p := ⟨w.heap.size, 1, none⟩) (Nat.le_refl _) _).setCell (p := ⟨w.heap.size, 2, none⟩) (Nat.le_refl _) _).trans (below_dn ⟨1, rfl⟩)
   ·obtain ⟨k1, hk1⟩ : ∃ x, x = a.take k := ⟨_, rfl⟩
    obtain ⟨k2, hk2⟩ : ∃ x, x = a.drop (k + 2) := ⟨_, rfl⟩
    have HPB2 := Lib.hid (show partS s.data.toList = if (numC k1).2 = true ∧ (numC k2).2 = true then some ⟨(numC k1).1, (numC k2).1, 0⟩ else none by rw [HPB.out, body_two a _ k hst2 hq, hk1, hk2])
    have HE1 := Lib.hid (show A.extract 0 k = ⟨k1.toArray⟩ by rw [ex_from, hAx, hk1])
    have HE2 := Lib.hid (show A.extract (k + 2) A.size = ⟨k2.toArray⟩ by rw [ex_to, hAx, hk2])
    obtain ⟨m1, hm1⟩ : ∃ m, numR4 k1 = m := ⟨_, rfl⟩
    obtain ⟨m2, hm2⟩ : ∃ m, numR4 k2 = m := ⟨_, rfl⟩
    have HN1 := Lib.hid (fun W => number4_any ⟨k1.toArray⟩ W m1 hm1)
    have HN2 := Lib.hid (fun W => number4_any ⟨k2.toArray⟩ W m2 hm2)
    rw [← HE1.out] at HN1
    rw [← HE2.out] at HN2
    have hAl : A.size = a.length := by rw [← hAx]; simp
    have hk0 : (k : Int) ≥ 0 := by omega
    have hk3 : (0 : Int) ≤ (k : Int) := by omega
    have HK4 := Lib.hid (show k + 2 ≤ A.size by omega)
    rw [hq] at HPT2
    obtain ⟨ok1, hok1⟩ : ∃ b, (numC k1).2 = b := ⟨_, rfl⟩
    obtain ⟨ok2, hok2⟩ : ∃ b, (numC k2).2 = b := ⟨_, rfl⟩
    have HG1 := Lib.hid (show decide (0 ≤ m1) = ok1 by
     rw [← hm1, ← hok1]
     cases h : (numC k1).2 with
     | true => rw [(numR4_yes k1 h).1]; simpa using (numR4_yes k1 h).2
     | false => rw [numR4_not k1 h]; rfl)
    have HG2 := Lib.hid (show decide (0 ≤ m2) = ok2 by
     rw [← hm2, ← hok2]
     cases h : (numC k2).2 with
     | true => rw [(numR4_yes k2 h).1]; simpa using (numR4_yes k2 h).2
     | false => rw [numR4_not k2 h]; rfl)
    have HR0 := Lib.hid (show partS s.data.toList = if ok1 = true ∧ ok2 = true then some ⟨m1, m2, 0⟩ else none by
     rw [HPB2.out, hok1, hok2]
     cases ok1 with
     | false => simp
     | true =>
      cases ok2 with
      | false => simp
      | true => rw [← hm1, ← hm2, (numR4_yes k1 hok1).1, (numR4_yes k2 hok2).1])
    clear hok1 hok2 hm1 hm2 HPB2 HPB hk1 hk2 hkl hq hst hst2 hAx hA hAl
    go_wp2_with fail
    first | (refine (HPT2.out _).mono ?_) | (go_at_call 127; refine (HPT2.out _).mono ?_)
    rintro e w2 ⟨rfl, hb⟩
    have HB2 := Lib.hid (HB1.out.trans (hb.mono HB1.out.size))
    have HX2 := Lib.hid (heap_below HX1.out hb)
    have HP2 := Lib.hid (heap_below HP1.out hb)
    have HF2 := Lib.hid (HF1.out.trans (Fr.of_below hb _))
    clear hb HPT2 d0
    try clear d1 hb4 hb5
    clear x0 x1 x2 y0 y1 y2 p0 p1 p2 r0 r1 r2
    go_wp2_with fail
    have hk4 := HK4.out
    have hk5 : (k : Int) + 2 ≤ (A.size : Int) := by omega
    have hk6 : (k : Int) ≤ (A.size : Int) := by omega
    have hkw : wrap64 ((k : Int) + 2) = (k : Int) + 2 := by unfold wrap64; omega
    have hkw2 : IntKind.i64.wrap ((k : Int) + 2) = (k : Int) + 2 := IntWalk.i64_in _ (by omega)
    have hkt : ((k : Int) + 2).toNat = k + 2 := by omega
    have hk7 : ¬ (k : Int) + 2 < 0 := by omega
    have hk8 : k ≤ A.size := by omega
    have HBJ := Lib.hid (below_dn (B := w2.heap.size) (a := w2) (b := w2.drew) ⟨1, rfl⟩)
    refine wp_region_drawT (S := fun V => Below w2.heap.size w2 V) 14 (by kernel_rfl) (by kernel_rfl) HBJ.out (fun hHeld => ?_)
    try simp only [Act.put, List.setIfInBounds_toArray, List.set_cons_zero, List.set_cons_succ]
    refine drawT_take (i := 0) (v := .slice (some ⟨b4, o4, none⟩) 1 cap) (List.getElem?_toArray.trans rfl) (by kernel_rfl) (by kernel_rfl) (by kernel_rfl) (by kernel_rfl) (fun _ _ _ h => h) (Or.inl ⟨by rfl, fun W hW => by clear hW; go_simp⟩) (by assumption) ?_
    try simp only [Act.put, List.setIfInBounds_toArray, List.set_cons_zero, List.set_cons_succ]
    refine drawT_take (i := 1) (v := .pointer (some ⟨b4, o4, none⟩)) (List.getElem?_toArray.trans rfl) (by kernel_rfl) (by kernel_rfl) (by kernel_rfl) (by kernel_rfl) (fun _ _ _ h => h) (Or.inl ⟨by rfl, fun W hW => by clear hW; go_simp⟩) (by assumption) ?_
    try simp only [Act.put, List.setIfInBounds_toArray, List.set_cons_zero, List.set_cons_succ]
    refine drawT_take (i := 2) (v := .string A) (List.getElem?_toArray.trans rfl) (by kernel_rfl) (by kernel_rfl) (by kernel_rfl) (by kernel_rfl) (fun _ _ _ h => h) (Or.inl ⟨by rfl, fun W hW => by have hf := HF2.out.trans (Fr.of_below hW _); have d0 := HA.out W hf; clear hf hW; go_simp⟩) (by assumption) ?_
    try simp only [Act.put, List.setIfInBounds_toArray, List.set_cons_zero, List.set_cons_succ]
    refine drawT_take (i := 3) (v := .int .i64 k) (List.getElem?_toArray.trans rfl) (by kernel_rfl) (by kernel_rfl) (by kernel_rfl) (by kernel_rfl) (fun _ _ _ h => h) (Or.inl ⟨by rfl, fun W hW => by clear hW; go_simp⟩) (by assumption) ?_
    try simp only [Act.put, List.setIfInBounds_toArray, List.set_cons_zero, List.set_cons_succ]
    refine drawT_take (i := 4) (v := .string (A.extract 0 k)) (List.getElem?_toArray.trans rfl) (by kernel_rfl) (by kernel_rfl) (by kernel_rfl) (by kernel_rfl) (fun _ _ _ h => h) (Or.inl ⟨by rfl, fun W hW => by clear hW; go_simp⟩) (by assumption) ?_
    try simp only [Act.put, List.setIfInBounds_toArray, List.set_cons_zero, List.set_cons_succ]
    refine drawT_take (i := 6) (v := .slice (some ⟨b4, o4, none⟩) 1 cap) (List.getElem?_toArray.trans rfl) (by kernel_rfl) (by kernel_rfl) (by kernel_rfl) (by kernel_rfl) (fun _ _ _ h => h) (Or.inl ⟨by rfl, fun W hW => by clear hW; go_simp⟩) (by assumption) ?_
    try simp only [Act.put, List.setIfInBounds_toArray, List.set_cons_zero, List.set_cons_succ]
    refine drawT_take (i := 7) (v := .pointer (some ⟨b4, o4, none⟩)) (List.getElem?_toArray.trans rfl) (by kernel_rfl) (by kernel_rfl) (by kernel_rfl) (by kernel_rfl) (fun _ _ _ h => h) (Or.inl ⟨by rfl, fun W hW => by clear hW; go_simp⟩) (by assumption) ?_
    try simp only [Act.put, List.setIfInBounds_toArray, List.set_cons_zero, List.set_cons_succ]
    refine drawT_take (i := 8) (v := .string A) (List.getElem?_toArray.trans rfl) (by kernel_rfl) (by kernel_rfl) (by kernel_rfl) (by kernel_rfl) (fun _ _ _ h => h) (Or.inl ⟨by rfl, fun W hW => by have hf := HF2.out.trans (Fr.of_below hW _); have d0 := HA.out W hf; clear hf hW; go_simp⟩) (by assumption) ?_
    try simp only [Act.put, List.setIfInBounds_toArray, List.set_cons_zero, List.set_cons_succ]
    refine drawT_take (i := 9) (v := .int .i64 k) (List.getElem?_toArray.trans rfl) (by kernel_rfl) (by kernel_rfl) (by kernel_rfl) (by kernel_rfl) (fun _ _ _ h => h) (Or.inl ⟨by rfl, fun W hW => by clear hW; go_simp⟩) (by assumption) ?_
    try simp only [Act.put, List.setIfInBounds_toArray, List.set_cons_zero, List.set_cons_succ]
    refine drawT_take (i := 10) (v := .int .i64 (k + 2)) (List.getElem?_toArray.trans rfl) (by kernel_rfl) (by kernel_rfl) (by kernel_rfl) (by kernel_rfl) (fun _ _ _ h => h) (Or.inl ⟨by rfl, fun W hW => by clear hW; go_simp⟩) (by assumption) ?_
    try simp only [Act.put, List.setIfInBounds_toArray, List.set_cons_zero, List.set_cons_succ]
    refine drawT_take (i := 11) (v := .string (A.extract (k + 2) A.size)) (List.getElem?_toArray.trans rfl) (by kernel_rfl) (by kernel_rfl) (by kernel_rfl) (by kernel_rfl) (fun _ _ _ h => h) (Or.inl ⟨by rfl, fun W hW => by clear hW; go_simp⟩) (by assumption) ?_
    try simp only [Act.put, List.setIfInBounds_toArray, List.set_cons_zero, List.set_cons_succ]
    have HW1 := Lib.hid hHeld
    refine drawT_one (i := 5) (List.getElem?_toArray.trans rfl) (by kernel_rfl) (by kernel_rfl) (fun K hK => ?_)
    clear hHeld
    rw [if_pos (by rfl)]
    go_simp
    refine (HN1.out _).mono ?_
    rintro e wc1 ⟨rfl, hb⟩
    have HV1 := Lib.hid (HW1.out.trans (hb.mono HW1.out.size))
    clear hb
    refine hK.out _ _ HV1.out (fun hHeld => ?_)
    clear hK K
    try simp only [Act.put, List.setIfInBounds_toArray, List.set_cons_zero, List.set_cons_succ]
    refine drawT_take (i := 13) (v := .pointer (some ⟨w.heap.size + 1, 0, none⟩)) (List.getElem?_toArray.trans rfl) (by kernel_rfl) (by kernel_rfl) (by kernel_rfl) (by kernel_rfl) (fun _ _ _ h => h) (Or.inl ⟨by rfl, fun W hW => by clear hW; go_simp⟩) (by assumption) ?_
    try simp only [Act.put, List.setIfInBounds_toArray, List.set_cons_zero, List.set_cons_succ]
    have HW2 := Lib.hid hHeld
    refine drawT_one (i := 12) (List.getElem?_toArray.trans rfl) (by kernel_rfl) (by kernel_rfl) (fun K hK => ?_)
    clear hHeld
    rw [if_pos (by rfl)]
    go_simp
    refine (HN2.out _).mono ?_
    rintro e wc2 ⟨rfl, hb⟩
    have HV2 := Lib.hid (HW2.out.trans (hb.mono HW2.out.size))
    clear hb
    refine hK.out _ _ HV2.out (fun hHeld => ?_)
    clear hK K
    try simp only [Act.put, List.setIfInBounds_toArray, List.set_cons_zero, List.set_cons_succ]
    refine drawT_done (by kernel_rfl) ?_
    clear hHeld
    have HB7 := Lib.hid (HB2.out.trans (HV2.out.mono HB2.out.size))
    have HX7 := Lib.hid (heap_below HX2.out HV2.out)
    have HP7 := Lib.hid (heap_below HP2.out HV2.out)
    clear HA HN1 HN2 HW1 HW2 HV1 HV2 HBJ HE1 HE2 hkw
    generalize wc2 = w7 at *
    obtain ⟨x0, x1, x2, y0, y1, y2⟩ := cells_of3 HX7.out
    obtain ⟨p0, p1, p2, r0, r1, r2⟩ := cells_of3 HP7.out
    go_wp2_with fail
    have hP8 := heap_setCell (heap_setCell HP7.out 0 (.int .i64 m1)) 1 (.int .i64 m2)
    have HP9 := Lib.hid (show ((w7.setCell ⟨w.heap.size + 1, 0, none⟩ (.int .i64 m1)).setCell ⟨w.heap.size + 1, 1, none⟩ (.int .i64 m2)).heap[w.heap.size + 1]? = some (.cells #[.int .i64 m1, .int .i64 m2, .int .i64 0] 115 (0, 0)) from by simpa using hP8)
    have HX9 := Lib.hid (heap_other (heap_other HX7.out (a := ⟨w.heap.size + 1, 0, none⟩) (by simp) (.int .i64 m1)) (a := ⟨w.heap.size + 1, 1, none⟩) (by simp) (.int .i64 m2))
    have HB9 := Lib.hid ((HB7.out.setCell (p := ⟨w.heap.size + 1, 0, none⟩) (by simp) (.int .i64 m1)).setCell (p := ⟨w.heap.size + 1, 1, none⟩) (by simp) (.int .i64 m2))
    clear hP8 HB7 HX7 HP7
    clear x0 x1 x2 y0 y1 y2 p0 p1 p2 r0 r1 r2
    generalize (w7.setCell ⟨w.heap.size + 1, 0, none⟩ (.int .i64 m1)).setCell ⟨w.heap.size + 1, 1, none⟩ (.int .i64 m2) = w9 at *
    cases ok1 with
    | false =>
     have hg1 : ¬ (0 : Int) ≤ m1 := by have := HG1.out; simpa using this
     have hg2 : ¬ m1 ≥ (0 : Int) := hg1
     have hg3 : m1 < 0 := by omega
     have HR := Lib.hid (show partS s.data.toList = none by rw [HR0.out]; simp)
     clear HR0 HG1 HG2
     refine wp_region_drawT (S := fun V => V.heap[w.heap.size + 1]? = some (.cells #[.int .i64 m1, .int .i64 m2, .int .i64 0] 115 (0, 0))) 10 (by kernel_rfl) (by kernel_rfl) (by exact HP9.out) (fun hHeld => ?_)
     try simp only [Act.put, List.setIfInBounds_toArray, List.set_cons_zero, List.set_cons_succ]
     refine drawT_take (i := 0) (v := .agg #[.int .i64 m1, .int .i64 m2, .int .i64 0]) (List.getElem?_toArray.trans rfl) (by kernel_rfl) (by kernel_rfl) (by kernel_rfl) (by kernel_rfl) (fun _ _ _ h => h) (Or.inl ⟨by rfl, fun W hW => by obtain ⟨p0, p1, p2, -, -, -⟩ := cells_of3 hW; clear hW; go_simp⟩) (by assumption) ?_
     try simp only [Act.put, List.setIfInBounds_toArray, List.set_cons_zero, List.set_cons_succ]
     refine drawT_take (i := 1) (v := .pointer (some ⟨w.heap.size + 1, 0, none⟩)) (List.getElem?_toArray.trans rfl) (by kernel_rfl) (by kernel_rfl) (by kernel_rfl) (by kernel_rfl) (fun _ _ _ h => h) (Or.inl ⟨by rfl, fun W hW => by obtain ⟨p0, p1, p2, -, -, -⟩ := cells_of3 hW; clear hW; go_simp⟩) (by assumption) ?_
     try simp only [Act.put, List.setIfInBounds_toArray, List.set_cons_zero, List.set_cons_succ]
     refine drawT_take (i := 2) (v := .int .i64 m1) (List.getElem?_toArray.trans rfl) (by kernel_rfl) (by kernel_rfl) (by kernel_rfl) (by kernel_rfl) (fun _ _ _ h => h) (Or.inl ⟨by rfl, fun W hW => by obtain ⟨p0, p1, p2, -, -, -⟩ := cells_of3 hW; clear hW; go_simp⟩) (by assumption) ?_
     try simp only [Act.put, List.setIfInBounds_toArray, List.set_cons_zero, List.set_cons_succ]
     refine drawT_take (i := 3) (v := .bool false) (List.getElem?_toArray.trans rfl) (by kernel_rfl) (by kernel_rfl) (by kernel_rfl) (by kernel_rfl) (fun _ _ _ h => h) (Or.inl ⟨by rfl, fun W hW => by obtain ⟨p0, p1, p2, -, -, -⟩ := cells_of3 hW; clear hW; go_simp⟩) (by assumption) ?_
     try simp only [Act.put, List.setIfInBounds_toArray, List.set_cons_zero, List.set_cons_succ]
     refine drawT_take (i := 4) (v := .bool false) (List.getElem?_toArray.trans rfl) (by kernel_rfl) (by kernel_rfl) (by kernel_rfl) (by kernel_rfl) (fun _ _ _ h => h) (Or.inl ⟨by rfl, fun W hW => by obtain ⟨p0, p1, p2, -, -, -⟩ := cells_of3 hW; clear hW; go_simp⟩) (by assumption) ?_
     try simp only [Act.put, List.setIfInBounds_toArray, List.set_cons_zero, List.set_cons_succ]
     refine drawT_take (i := 5) (v := undef) (List.getElem?_toArray.trans rfl) (by kernel_rfl) (by kernel_rfl) (by kernel_rfl) (by kernel_rfl) (fun _ _ _ h => h) (Or.inr ⟨by rfl, rfl⟩) (by assumption) ?_
     try simp only [Act.put, List.setIfInBounds_toArray, List.set_cons_zero, List.set_cons_succ]
     refine drawT_take (i := 6) (v := undef) (List.getElem?_toArray.trans rfl) (by kernel_rfl) (by kernel_rfl) (by kernel_rfl) (by kernel_rfl) (fun _ _ _ h => h) (Or.inr ⟨by rfl, rfl⟩) (by assumption) ?_
     try simp only [Act.put, List.setIfInBounds_toArray, List.set_cons_zero, List.set_cons_succ]
     refine drawT_take (i := 7) (v := undef) (List.getElem?_toArray.trans rfl) (by kernel_rfl) (by kernel_rfl) (by kernel_rfl) (by kernel_rfl) (fun _ _ _ h => h) (Or.inr ⟨by rfl, rfl⟩) (by assumption) ?_
     try simp only [Act.put, List.setIfInBounds_toArray, List.set_cons_zero, List.set_cons_succ]
     refine drawT_take (i := 8) (v := .bool false) (List.getElem?_toArray.trans rfl) (by kernel_rfl) (by kernel_rfl) (by kernel_rfl) (by kernel_rfl) (fun _ _ _ h => h) (Or.inl ⟨by rfl, fun W hW => by obtain ⟨p0, p1, p2, -, -, -⟩ := cells_of3 hW; clear hW; go_simp⟩) (by assumption) ?_
     try simp only [Act.put, List.setIfInBounds_toArray, List.set_cons_zero, List.set_cons_succ]
     obtain ⟨x0, x1, x2, y0, y1, y2⟩ := cells_of3 HX9.out
     refine drawT_one (i := 9) (List.getElem?_toArray.trans rfl) (by kernel_rfl) (by kernel_rfl) (fun K hK => ?_)
     clear hHeld
     rw [if_pos (by rfl)]
     go_simp
     refine hK.out _ _ (by exact heap_other (heap_other (heap_other HP9.out (a := ⟨w.heap.size, 0, none⟩) (by simp) _) (a := ⟨w.heap.size, 1, none⟩) (by simp) _) (a := ⟨w.heap.size, 2, none⟩) (by simp) _) (fun hHeld => ?_)
     clear hK K
     try simp only [Act.put, List.setIfInBounds_toArray, List.set_cons_zero, List.set_cons_succ]
     refine drawT_done (by kernel_rfl) ?_
     clear hHeld
     go_wp2_with fail
     try clear p0 p1 p2 r0 r1 r2
     obtain ⟨p0, p1, p2, r0, r1, r2⟩ := cells_of3 HP9.out
     refine bodyPost_ret (v := .tuple #[.agg #[.int .i64 m1, .int .i64 m2, .int .i64 0], .bool (partS s.data.toList).isSome]) ?_ rfl ⟨⟨m1, m2, 0⟩, rfl, ?_, ?_⟩
     ·rw [HR.out]
      simp [results, Tryz.results94, go_sem, x0, x1, x2, p0, p1, p2]
     ·rw [HR.out]; intro q hq; first | (cases hq; done) | (injection hq)
     ·exact (((HB9.out.setCell (p := ⟨w.heap.size, 0, none⟩) (Nat.le_refl _) _).setCell (p := ⟨w.heap.size, 1, none⟩) (Nat.le_refl _) _).setCell (p := ⟨w.heap.size, 2, none⟩) (Nat.le_refl _) _).trans (below_dn ⟨1, rfl⟩)
    | true =>
     have hg1 : (0 : Int) ≤ m1 := by have := HG1.out; simpa using this
     have hg2 : m1 ≥ (0 : Int) := hg1
     cases ok2 with
     | false =>
      have hh1 : ¬ (0 : Int) ≤ m2 := by have := HG2.out; simpa using this
      have hh2 : ¬ m2 ≥ (0 : Int) := hh1
      have hh3 : m2 < 0 := by omega
      have HR := Lib.hid (show partS s.data.toList = none by rw [HR0.out]; simp)
      clear HR0 HG1 HG2
      refine wp_region_drawT (S := fun V => V.heap[w.heap.size + 1]? = some (.cells #[.int .i64 m1, .int .i64 m2, .int .i64 0] 115 (0, 0))) 10 (by kernel_rfl) (by kernel_rfl) (by exact HP9.out) (fun hHeld => ?_)
      try simp only [Act.put, List.setIfInBounds_toArray, List.set_cons_zero, List.set_cons_succ]
      refine drawT_take (i := 0) (v := .agg #[.int .i64 m1, .int .i64 m2, .int .i64 0]) (List.getElem?_toArray.trans rfl) (by kernel_rfl) (by kernel_rfl) (by kernel_rfl) (by kernel_rfl) (fun _ _ _ h => h) (Or.inl ⟨by rfl, fun W hW => by obtain ⟨p0, p1, p2, -, -, -⟩ := cells_of3 hW; clear hW; go_simp⟩) (by assumption) ?_
      try simp only [Act.put, List.setIfInBounds_toArray, List.set_cons_zero, List.set_cons_succ]
      refine drawT_take (i := 1) (v := .pointer (some ⟨w.heap.size + 1, 0, none⟩)) (List.getElem?_toArray.trans rfl) (by kernel_rfl) (by kernel_rfl) (by kernel_rfl) (by kernel_rfl) (fun _ _ _ h => h) (Or.inl ⟨by rfl, fun W hW => by obtain ⟨p0, p1, p2, -, -, -⟩ := cells_of3 hW; clear hW; go_simp⟩) (by assumption) ?_
      try simp only [Act.put, List.setIfInBounds_toArray, List.set_cons_zero, List.set_cons_succ]
      refine drawT_take (i := 2) (v := .int .i64 m1) (List.getElem?_toArray.trans rfl) (by kernel_rfl) (by kernel_rfl) (by kernel_rfl) (by kernel_rfl) (fun _ _ _ h => h) (Or.inl ⟨by rfl, fun W hW => by obtain ⟨p0, p1, p2, -, -, -⟩ := cells_of3 hW; clear hW; go_simp⟩) (by assumption) ?_
      try simp only [Act.put, List.setIfInBounds_toArray, List.set_cons_zero, List.set_cons_succ]
      refine drawT_take (i := 3) (v := .bool true) (List.getElem?_toArray.trans rfl) (by kernel_rfl) (by kernel_rfl) (by kernel_rfl) (by kernel_rfl) (fun _ _ _ h => h) (Or.inl ⟨by rfl, fun W hW => by obtain ⟨p0, p1, p2, -, -, -⟩ := cells_of3 hW; clear hW; go_simp⟩) (by assumption) ?_
      try simp only [Act.put, List.setIfInBounds_toArray, List.set_cons_zero, List.set_cons_succ]
      refine drawT_take (i := 4) (v := .bool true) (List.getElem?_toArray.trans rfl) (by kernel_rfl) (by kernel_rfl) (by kernel_rfl) (by kernel_rfl) (fun _ _ _ h => h) (Or.inl ⟨by rfl, fun W hW => by obtain ⟨p0, p1, p2, -, -, -⟩ := cells_of3 hW; clear hW; go_simp⟩) (by assumption) ?_
      try simp only [Act.put, List.setIfInBounds_toArray, List.set_cons_zero, List.set_cons_succ]
      refine drawT_take (i := 5) (v := .pointer (some ⟨w.heap.size + 1, 1, none⟩)) (List.getElem?_toArray.trans rfl) (by kernel_rfl) (by kernel_rfl) (by kernel_rfl) (by kernel_rfl) (fun _ _ _ h => h) (Or.inl ⟨by rfl, fun W hW => by obtain ⟨p0, p1, p2, -, -, -⟩ := cells_of3 hW; clear hW; go_simp⟩) (by assumption) ?_
      try simp only [Act.put, List.setIfInBounds_toArray, List.set_cons_zero, List.set_cons_succ]
      refine drawT_take (i := 6) (v := .int .i64 m2) (List.getElem?_toArray.trans rfl) (by kernel_rfl) (by kernel_rfl) (by kernel_rfl) (by kernel_rfl) (fun _ _ _ h => h) (Or.inl ⟨by rfl, fun W hW => by obtain ⟨p0, p1, p2, -, -, -⟩ := cells_of3 hW; clear hW; go_simp⟩) (by assumption) ?_
      try simp only [Act.put, List.setIfInBounds_toArray, List.set_cons_zero, List.set_cons_succ]
      refine drawT_take (i := 7) (v := .bool false) (List.getElem?_toArray.trans rfl) (by kernel_rfl) (by kernel_rfl) (by kernel_rfl) (by kernel_rfl) (fun _ _ _ h => h) (Or.inl ⟨by rfl, fun W hW => by obtain ⟨p0, p1, p2, -, -, -⟩ := cells_of3 hW; clear hW; go_simp⟩) (by assumption) ?_
      try simp only [Act.put, List.setIfInBounds_toArray, List.set_cons_zero, List.set_cons_succ]
      refine drawT_take (i := 8) (v := .bool false) (List.getElem?_toArray.trans rfl) (by kernel_rfl) (by kernel_rfl) (by kernel_rfl) (by kernel_rfl) (fun _ _ _ h => h) (Or.inl ⟨by rfl, fun W hW => by obtain ⟨p0, p1, p2, -, -, -⟩ := cells_of3 hW; clear hW; go_simp⟩) (by assumption) ?_
      try simp only [Act.put, List.setIfInBounds_toArray, List.set_cons_zero, List.set_cons_succ]
      obtain ⟨x0, x1, x2, y0, y1, y2⟩ := cells_of3 HX9.out
      refine drawT_one (i := 9) (List.getElem?_toArray.trans rfl) (by kernel_rfl) (by kernel_rfl) (fun K hK => ?_)
      clear hHeld
      rw [if_pos (by rfl)]
      go_simp
      refine hK.out _ _ (by exact heap_other (heap_other (heap_other HP9.out (a := ⟨w.heap.size, 0, none⟩) (by simp) _) (a := ⟨w.heap.size, 1, none⟩) (by simp) _) (a := ⟨w.heap.size, 2, none⟩) (by simp) _) (fun hHeld => ?_)
      clear hK K
      try simp only [Act.put, List.setIfInBounds_toArray, List.set_cons_zero, List.set_cons_succ]
      refine drawT_done (by kernel_rfl) ?_
      clear hHeld
      go_wp2_with fail
      try clear p0 p1 p2 r0 r1 r2
      obtain ⟨p0, p1, p2, r0, r1, r2⟩ := cells_of3 HP9.out
      refine bodyPost_ret (v := .tuple #[.agg #[.int .i64 m1, .int .i64 m2, .int .i64 0], .bool (partS s.data.toList).isSome]) ?_ rfl ⟨⟨m1, m2, 0⟩, rfl, ?_, ?_⟩
      ·rw [HR.out]
       simp [results, Tryz.results94, go_sem, x0, x1, x2, p0, p1, p2]
      ·rw [HR.out]; intro q hq; first | (cases hq; done) | (injection hq)
      ·exact (((HB9.out.setCell (p := ⟨w.heap.size, 0, none⟩) (Nat.le_refl _) _).setCell (p := ⟨w.heap.size, 1, none⟩) (Nat.le_refl _) _).setCell (p := ⟨w.heap.size, 2, none⟩) (Nat.le_refl _) _).trans (below_dn ⟨1, rfl⟩)
     | true =>
      have hh1 : (0 : Int) ≤ m2 := by have := HG2.out; simpa using this
      have hh2 : m2 ≥ (0 : Int) := hh1
      have HR := Lib.hid (show partS s.data.toList = some ⟨m1, m2, 0⟩ by rw [HR0.out]; simp)
      clear HR0 HG1 HG2
      refine wp_region_drawT (S := fun V => V.heap[w.heap.size + 1]? = some (.cells #[.int .i64 m1, .int .i64 m2, .int .i64 0] 115 (0, 0))) 10 (by kernel_rfl) (by kernel_rfl) (by exact HP9.out) (fun hHeld => ?_)
      try simp only [Act.put, List.setIfInBounds_toArray, List.set_cons_zero, List.set_cons_succ]
      refine drawT_take (i := 0) (v := .agg #[.int .i64 m1, .int .i64 m2, .int .i64 0]) (List.getElem?_toArray.trans rfl) (by kernel_rfl) (by kernel_rfl) (by kernel_rfl) (by kernel_rfl) (fun _ _ _ h => h) (Or.inl ⟨by rfl, fun W hW => by obtain ⟨p0, p1, p2, -, -, -⟩ := cells_of3 hW; clear hW; go_simp⟩) (by assumption) ?_
      try simp only [Act.put, List.setIfInBounds_toArray, List.set_cons_zero, List.set_cons_succ]
      refine drawT_take (i := 1) (v := .pointer (some ⟨w.heap.size + 1, 0, none⟩)) (List.getElem?_toArray.trans rfl) (by kernel_rfl) (by kernel_rfl) (by kernel_rfl) (by kernel_rfl) (fun _ _ _ h => h) (Or.inl ⟨by rfl, fun W hW => by obtain ⟨p0, p1, p2, -, -, -⟩ := cells_of3 hW; clear hW; go_simp⟩) (by assumption) ?_
      try simp only [Act.put, List.setIfInBounds_toArray, List.set_cons_zero, List.set_cons_succ]
      refine drawT_take (i := 2) (v := .int .i64 m1) (List.getElem?_toArray.trans rfl) (by kernel_rfl) (by kernel_rfl) (by kernel_rfl) (by kernel_rfl) (fun _ _ _ h => h) (Or.inl ⟨by rfl, fun W hW => by obtain ⟨p0, p1, p2, -, -, -⟩ := cells_of3 hW; clear hW; go_simp⟩) (by assumption) ?_
      try simp only [Act.put, List.setIfInBounds_toArray, List.set_cons_zero, List.set_cons_succ]
      refine drawT_take (i := 3) (v := .bool true) (List.getElem?_toArray.trans rfl) (by kernel_rfl) (by kernel_rfl) (by kernel_rfl) (by kernel_rfl) (fun _ _ _ h => h) (Or.inl ⟨by rfl, fun W hW => by obtain ⟨p0, p1, p2, -, -, -⟩ := cells_of3 hW; clear hW; go_simp⟩) (by assumption) ?_
      try simp only [Act.put, List.setIfInBounds_toArray, List.set_cons_zero, List.set_cons_succ]
      refine drawT_take (i := 4) (v := .bool true) (List.getElem?_toArray.trans rfl) (by kernel_rfl) (by kernel_rfl) (by kernel_rfl) (by kernel_rfl) (fun _ _ _ h => h) (Or.inl ⟨by rfl, fun W hW => by obtain ⟨p0, p1, p2, -, -, -⟩ := cells_of3 hW; clear hW; go_simp⟩) (by assumption) ?_
      try simp only [Act.put, List.setIfInBounds_toArray, List.set_cons_zero, List.set_cons_succ]
      refine drawT_take (i := 5) (v := .pointer (some ⟨w.heap.size + 1, 1, none⟩)) (List.getElem?_toArray.trans rfl) (by kernel_rfl) (by kernel_rfl) (by kernel_rfl) (by kernel_rfl) (fun _ _ _ h => h) (Or.inl ⟨by rfl, fun W hW => by obtain ⟨p0, p1, p2, -, -, -⟩ := cells_of3 hW; clear hW; go_simp⟩) (by assumption) ?_
      try simp only [Act.put, List.setIfInBounds_toArray, List.set_cons_zero, List.set_cons_succ]
      refine drawT_take (i := 6) (v := .int .i64 m2) (List.getElem?_toArray.trans rfl) (by kernel_rfl) (by kernel_rfl) (by kernel_rfl) (by kernel_rfl) (fun _ _ _ h => h) (Or.inl ⟨by rfl, fun W hW => by obtain ⟨p0, p1, p2, -, -, -⟩ := cells_of3 hW; clear hW; go_simp⟩) (by assumption) ?_
      try simp only [Act.put, List.setIfInBounds_toArray, List.set_cons_zero, List.set_cons_succ]
      refine drawT_take (i := 7) (v := .bool true) (List.getElem?_toArray.trans rfl) (by kernel_rfl) (by kernel_rfl) (by kernel_rfl) (by kernel_rfl) (fun _ _ _ h => h) (Or.inl ⟨by rfl, fun W hW => by obtain ⟨p0, p1, p2, -, -, -⟩ := cells_of3 hW; clear hW; go_simp⟩) (by assumption) ?_
      try simp only [Act.put, List.setIfInBounds_toArray, List.set_cons_zero, List.set_cons_succ]
      refine drawT_take (i := 8) (v := .bool true) (List.getElem?_toArray.trans rfl) (by kernel_rfl) (by kernel_rfl) (by kernel_rfl) (by kernel_rfl) (fun _ _ _ h => h) (Or.inl ⟨by rfl, fun W hW => by obtain ⟨p0, p1, p2, -, -, -⟩ := cells_of3 hW; clear hW; go_simp⟩) (by assumption) ?_
      try simp only [Act.put, List.setIfInBounds_toArray, List.set_cons_zero, List.set_cons_succ]
      obtain ⟨x0, x1, x2, y0, y1, y2⟩ := cells_of3 HX9.out
      refine drawT_one (i := 9) (List.getElem?_toArray.trans rfl) (by kernel_rfl) (by kernel_rfl) (fun K hK => ?_)
      clear hHeld
      rw [if_pos (by rfl)]
      go_simp
      refine hK.out _ _ (by exact heap_other (heap_other (heap_other HP9.out (a := ⟨w.heap.size, 0, none⟩) (by simp) _) (a := ⟨w.heap.size, 1, none⟩) (by simp) _) (a := ⟨w.heap.size, 2, none⟩) (by simp) _) (fun hHeld => ?_)
      clear hK K
      try simp only [Act.put, List.setIfInBounds_toArray, List.set_cons_zero, List.set_cons_succ]
      refine drawT_done (by kernel_rfl) ?_
      clear hHeld
      go_wp2_with fail
      try clear p0 p1 p2 r0 r1 r2
      obtain ⟨p0, p1, p2, r0, r1, r2⟩ := cells_of3 HP9.out
      refine bodyPost_ret (v := .tuple #[.agg #[.int .i64 m1, .int .i64 m2, .int .i64 0], .bool (partS s.data.toList).isSome]) ?_ rfl ⟨⟨m1, m2, 0⟩, rfl, ?_, ?_⟩
      ·rw [HR.out]
       simp [results, Tryz.results94, go_sem, x0, x1, x2, p0, p1, p2]
      ·rw [HR.out]; intro q hq; first | (cases hq; done) | (injection hq)
      ·exact (((HB9.out.setCell (p := ⟨w.heap.size, 0, none⟩) (Nat.le_refl _) _).setCell (p := ⟨w.heap.size, 1, none⟩) (Nat.le_refl _) _).setCell (p := ⟨w.heap.size, 2, none⟩) (Nat.le_refl _) _).trans (below_dn ⟨1, rfl⟩)
 ·obtain rfl : n = 2 := hn
  have hal := HMEM.out a (by simp)
  have hbl := HMEM.out b (by simp)
  obtain ⟨A, hA⟩ : ∃ A : ByteArray, A = ⟨a.toArray⟩ := ⟨_, rfl⟩
  have hAs : A.size ≤ 1000000000 := by rw [hA]; show a.toArray.size ≤ _; simpa using hal
  obtain ⟨m0, hm0⟩ : ∃ m, numR4 b = m := ⟨_, rfl⟩
  have HN0 := Lib.hid (fun W => number4_any ⟨b.toArray⟩ W m0 hm0)
  obtain ⟨b4, o4, g4, e0⟩ := HST.out w1 HF1.out 1 (by simp)
  simp only [List.getElem_cons_succ, List.getElem_cons_zero] at e0
  obtain ⟨x0, x1, x2, y0, y1, y2⟩ := cells_of3 HX1.out
  obtain ⟨p0, p1, p2, r0, r1, r2⟩ := cells_of3 HP1.out
  have hnb : (numC b).2 = true → numR4 b = (numC b).1 ∧ 0 ≤ (numC b).1 := numR4_yes b
  have hnn : (numC b).2 = false → numR4 b = -1 := numR4_not b
  clear HMEM hl0 hal hbl
  by_cases hm : m0 < 1
  ·have HR := Lib.hid (show partS s.data.toList = none by
    rw [HPT.out]
    show (if (numC b).2 = false ∨ (numC b).1 = 0 then none else bodyS a (numC b).1) = none
    rw [if_pos]
    cases h : (numC b).2 with
    | false => exact .inl rfl
    | true => have := hnb h; exact .inr (by omega))
   clear HPT hnb hnn hm0
   subst g4
   go_wp2_with fail
   refine (HN0.out _).mono ?_
   rintro e w2 ⟨rfl, hb⟩
   have HB2 := Lib.hid (HB1.out.trans (hb.mono HB1.out.size))
   have HX2 := Lib.hid (heap_below HX1.out hb)
   have HP2 := Lib.hid (heap_below HP1.out hb)
   clear hb HN0 e0
   clear x0 x1 x2 y0 y1 y2 p0 p1 p2 r0 r1 r2
   obtain ⟨x0, x1, x2, y0, y1, y2⟩ := cells_of3 HX2.out
   obtain ⟨p0, p1, p2, r0, r1, r2⟩ := cells_of3 HP2.out
   go_wp2_with fail
   refine bodyPost_ret (v := .tuple #[.agg #[.int .i64 (-1), .int .i64 (-1), .int .i64 m0], .bool (partS s.data.toList).isSome]) ?_ rfl ⟨⟨(-1), (-1), m0⟩, rfl, ?_, ?_⟩
   ·rw [HR.out]
    simp [results, Tryz.results94, go_sem, x0, x1, x2, p0, p1, p2]
   ·rw [HR.out]; intro q hq; first | (cases hq; done) | (injection hq)
   ·exact ((((HB2.out.setCell (p := ⟨w.heap.size + 1, 2, none⟩) (by simp) _).setCell (p := ⟨w.heap.size, 0, none⟩) (Nat.le_refl _) _).setCell (p := ⟨w.heap.size, 1, none⟩) (Nat.le_refl _) _).setCell (p := ⟨w.heap.size, 2, none⟩) (Nat.le_refl _) _)
  ·have HPB := Lib.hid (show partS s.data.toList = bodyS a m0 by
    rw [HPT.out]
    show (if (numC b).2 = false ∨ (numC b).1 = 0 then none else bodyS a (numC b).1) = bodyS a m0
    cases h : (numC b).2 with
    | false => have := hnn h; omega
    | true =>
     have := hnb h
     have hn : ¬ ((numC b).2 = false ∨ (numC b).1 = 0) := by
      rintro (h2 | h2)
      ·rw [h] at h2; cases h2
      ·omega
     rw [h] at hn
     rw [if_neg hn, ← hm0, this.1])
   clear HPT hnb hnn hm0
   subst g4
   go_wp2_with fail
   refine (HN0.out _).mono ?_
   rintro e w2 ⟨rfl, hb⟩
   have HB2 := Lib.hid (HB1.out.trans (hb.mono HB1.out.size))
   have HX2 := Lib.hid (heap_below HX1.out hb)
   have HP2 := Lib.hid (heap_below HP1.out hb)
   have HF2 := Lib.hid (HF1.out.trans (Fr.of_below hb _))
   clear hb HN0 e0
   have HB3 := Lib.hid (HB2.out.setCell (p := ⟨w.heap.size + 1, 2, none⟩) (by simp) (.int .i64 m0))
   have HX3 := Lib.hid (heap_other HX2.out (a := ⟨w.heap.size + 1, 2, none⟩) (by simp) (.int .i64 m0))
   have HP3 := Lib.hid (show (w2.setCell ⟨w.heap.size + 1, 2, none⟩ (.int .i64 m0)).heap[w.heap.size + 1]? = some (.cells #[.int .i64 (-1), .int .i64 (-1), .int .i64 m0] 115 (0, 0)) from by simpa using heap_setCell HP2.out 2 (.int .i64 m0))
   have HF3 := Lib.hid (HF2.out.setCell (p := ⟨w.heap.size + 1, 2, none⟩) (fun _ => rfl) (.int .i64 m0))
   clear x0 x1 x2 y0 y1 y2 p0 p1 p2 r0 r1 r2
   obtain ⟨x0, x1, x2, y0, y1, y2⟩ := cells_of3 HX2.out
   obtain ⟨p0, p1, p2, r0, r1, r2⟩ := cells_of3 HP2.out
   have HA := Lib.hid (fun V (h : Fr (fun k => k = w.heap.size + 1) w1 V) => show V.cell? ⟨b4, o4, none⟩ = some (.string A) from by
    obtain ⟨b5, o5, e5, d5⟩ := HST.out V h 0 (by simp)
    injection e5 with e5; injection e5 with e6 e7
    subst e6; subst e7
    simp only [Nat.add_zero, List.getElem_cons_zero] at d5
    rw [hA]; exact d5)
   have d0 := HA.out (w2.setCell ⟨w.heap.size + 1, 2, none⟩ (.int .i64 m0)) HF3.out
   have d1 := HA.out w2 HF2.out
   have hb4 := hne4.out _ _ rfl
   have hb5 : w.heap.size + 1 ≠ b4 := fun e => hb4 e.symm
   cases hst : (a == [42]) with
   | true =>
    have hA2 : A = ⟨#[42]⟩ := by rw [hA, eq_of_beq hst]
    have HR := Lib.hid (show partS s.data.toList = some ⟨-1, -1, m0⟩ by rw [HPB.out]; unfold bodyS; rw [if_pos (eq_of_beq hst)])
    subst hA2
    clear HPB hA hst HA
    go_wp2_with fail
    refine bodyPost_ret (v := .tuple #[.agg #[.int .i64 (-1), .int .i64 (-1), .int .i64 m0], .bool (partS s.data.toList).isSome]) ?_ rfl ⟨⟨(-1), (-1), m0⟩, rfl, ?_, ?_⟩
    ·rw [HR.out]
     simp [results, Tryz.results94, go_sem, x0, x1, x2, p0, p1, p2]
    ·rw [HR.out]; intro q hq; first | (cases hq; done) | (injection hq)
    ·exact (((HB3.out.setCell (p := ⟨w.heap.size, 0, none⟩) (Nat.le_refl _) _).setCell (p := ⟨w.heap.size, 1, none⟩) (Nat.le_refl _) _).setCell (p := ⟨w.heap.size, 2, none⟩) (Nat.le_refl _) _)
   | false =>
    have hst2 : a ≠ [42] := by rw [beq_eq_false_iff_ne] at hst; exact hst
    have hAx : A.data.toList = a := by rw [hA]
    have hne : (A.toList == [42]) = false := by
     rw [beq_eq_false_iff_ne, ByteArray.toList_eq, hAx]; exact hst2
    have HPT2 := Lib.hid (fun W => points_any A W hAs (ptFrom a 0) (by rw [hAx]))
    rcases ptFrom_cases a 0 with hq | ⟨k, hq, -, hkl⟩
    ·have HPB2 := Lib.hid (show partS s.data.toList = if (numC a).2 = true then some ⟨(numC a).1, -1, m0⟩ else none by rw [HPB.out, body_one a _ hst2 hq])
     obtain ⟨m1, hm1⟩ : ∃ m, numR4 a = m := ⟨_, rfl⟩
     have HN1 := Lib.hid (fun W => number4_any A W m1 (by rw [hAx]; exact hm1))
     rw [hq] at HPT2
     cases hnc : (numC a).2 with
     | true =>
      obtain ⟨q1, q2⟩ := numR4_yes a hnc
      have HR := Lib.hid (show partS s.data.toList = some ⟨m1, -1, m0⟩ by rw [HPB2.out, hnc, if_pos rfl, ← hm1, q1])
      have hge : (0 : Int) ≤ m1 := by rw [← hm1, q1]; exact q2
      have hge2 : m1 ≥ (0 : Int) := hge
      clear q1 q2
      clear hnc hm1 HPB2 HPB hq hst hst2 hAx hA
      go_wp2_with fail
      first | (refine (HPT2.out _).mono ?_) | (go_at_call 127; refine (HPT2.out _).mono ?_)
      rintro e w4 ⟨rfl, hb⟩
      have HB4 := Lib.hid (HB3.out.trans (hb.mono HB3.out.size))
      have HX4 := Lib.hid (heap_below HX3.out hb)
      have HP4 := Lib.hid (heap_below HP3.out hb)
      have HF4 := Lib.hid (HF3.out.trans (Fr.of_below hb _))
      clear hb HPT2 d0
      try clear d1 hb4 hb5
      clear x0 x1 x2 y0 y1 y2 p0 p1 p2 r0 r1 r2
      have d0 := HA.out w4 HF4.out
      obtain ⟨x0, x1, x2, y0, y1, y2⟩ := cells_of3 HX4.out
      obtain ⟨p0, p1, p2, r0, r1, r2⟩ := cells_of3 HP4.out
      go_wp2_with fail
      refine (HN1.out _).mono ?_
      rintro e w5 ⟨rfl, hb⟩
      have HB5 := Lib.hid (HB4.out.trans (hb.mono HB4.out.size))
      have HX5 := Lib.hid (heap_below HX4.out hb)
      have HP5 := Lib.hid (heap_below HP4.out hb)
      clear hb HN1 d0 HA
      clear x0 x1 x2 y0 y1 y2 p0 p1 p2 r0 r1 r2
      obtain ⟨x0, x1, x2, y0, y1, y2⟩ := cells_of3 HX5.out
      obtain ⟨p0, p1, p2, r0, r1, r2⟩ := cells_of3 HP5.out
      go_wp2_with fail
      have HP9 := Lib.hid (show (w5.setCell ⟨w.heap.size + 1, 0, none⟩ (.int .i64 m1)).heap[w.heap.size + 1]? = some (.cells #[.int .i64 m1, .int .i64 (-1), .int .i64 m0] 115 (0, 0)) from heap_setCell HP5.out 0 (.int .i64 m1))
      have HX9 := Lib.hid (heap_other HX5.out (a := ⟨w.heap.size + 1, 0, none⟩) (by simp) (.int .i64 m1))
      have HB9 := Lib.hid (HB5.out.setCell (p := ⟨w.heap.size + 1, 0, none⟩) (by simp) (.int .i64 m1))
      clear x0 x1 x2 y0 y1 y2 p0 p1 p2 r0 r1 r2
      generalize w5.setCell ⟨w.heap.size + 1, 0, none⟩ (.int .i64 m1) = w9 at *
      refine wp_region_drawT (S := fun V => V.heap[w.heap.size + 1]? = some (.cells #[.int .i64 m1, .int .i64 (-1), .int .i64 m0] 115 (0, 0))) 5 (by kernel_rfl) (by kernel_rfl) (by exact HP9.out) (fun hHeld => ?_)
      try simp only [Act.put, List.setIfInBounds_toArray, List.set_cons_zero, List.set_cons_succ]
      refine drawT_take (i := 0) (v := .agg #[.int .i64 m1, .int .i64 (-1), .int .i64 m0]) (List.getElem?_toArray.trans rfl) (by kernel_rfl) (by kernel_rfl) (by kernel_rfl) (by kernel_rfl) (fun _ _ _ h => h) (Or.inl ⟨by rfl, fun W hW => by obtain ⟨p0, p1, p2, -, -, -⟩ := cells_of3 hW; clear hW; go_simp⟩) (by assumption) ?_
      try simp only [Act.put, List.setIfInBounds_toArray, List.set_cons_zero, List.set_cons_succ]
      refine drawT_take (i := 1) (v := .pointer (some ⟨w.heap.size + 1, 0, none⟩)) (List.getElem?_toArray.trans rfl) (by kernel_rfl) (by kernel_rfl) (by kernel_rfl) (by kernel_rfl) (fun _ _ _ h => h) (Or.inl ⟨by rfl, fun W hW => by obtain ⟨p0, p1, p2, -, -, -⟩ := cells_of3 hW; clear hW; go_simp⟩) (by assumption) ?_
      try simp only [Act.put, List.setIfInBounds_toArray, List.set_cons_zero, List.set_cons_succ]
      refine drawT_take (i := 2) (v := .int .i64 m1) (List.getElem?_toArray.trans rfl) (by kernel_rfl) (by kernel_rfl) (by kernel_rfl) (by kernel_rfl) (fun _ _ _ h => h) (Or.inl ⟨by rfl, fun W hW => by obtain ⟨p0, p1, p2, -, -, -⟩ := cells_of3 hW; clear hW; go_simp⟩) (by assumption) ?_
      try simp only [Act.put, List.setIfInBounds_toArray, List.set_cons_zero, List.set_cons_succ]
      refine drawT_take (i := 3) (v := .bool true) (List.getElem?_toArray.trans rfl) (by kernel_rfl) (by kernel_rfl) (by kernel_rfl) (by kernel_rfl) (fun _ _ _ h => h) (Or.inl ⟨by rfl, fun W hW => by obtain ⟨p0, p1, p2, -, -, -⟩ := cells_of3 hW; clear hW; go_simp⟩) (by assumption) ?_
      try simp only [Act.put, List.setIfInBounds_toArray, List.set_cons_zero, List.set_cons_succ]
      obtain ⟨x0, x1, x2, y0, y1, y2⟩ := cells_of3 HX9.out
      refine drawT_one (i := 4) (List.getElem?_toArray.trans rfl) (by kernel_rfl) (by kernel_rfl) (fun K hK => ?_)
      clear hHeld
      rw [if_pos (by rfl)]
      go_simp
      refine hK.out _ _ (by exact heap_other (heap_other (heap_other HP9.out (a := ⟨w.heap.size, 0, none⟩) (by simp) _) (a := ⟨w.heap.size, 1, none⟩) (by simp) _) (a := ⟨w.heap.size, 2, none⟩) (by simp) _) (fun hHeld => ?_)
      clear hK K
      try simp only [Act.put, List.setIfInBounds_toArray, List.set_cons_zero, List.set_cons_succ]
      refine drawT_done (by kernel_rfl) ?_
      clear hHeld
      go_wp2_with fail
      try clear p0 p1 p2 r0 r1 r2
      obtain ⟨p0, p1, p2, r0, r1, r2⟩ := cells_of3 HP9.out
      refine bodyPost_ret (v := .tuple #[.agg #[.int .i64 m1, .int .i64 (-1), .int .i64 m0], .bool (partS s.data.toList).isSome]) ?_ rfl ⟨⟨m1, (-1), m0⟩, rfl, ?_, ?_⟩
      ·rw [HR.out]
       simp [results, Tryz.results94, go_sem, x0, x1, x2, p0, p1, p2]
      ·rw [HR.out]; intro q hq; first | (cases hq; done) | (injection hq)
      ·exact (((HB9.out.setCell (p := ⟨w.heap.size, 0, none⟩) (Nat.le_refl _) _).setCell (p := ⟨w.heap.size, 1, none⟩) (Nat.le_refl _) _).setCell (p := ⟨w.heap.size, 2, none⟩) (Nat.le_refl _) _).trans (below_dn ⟨1, rfl⟩)
     | false =>
      have HR := Lib.hid (show partS s.data.toList = none by rw [HPB2.out, hnc]; simp)
      have hge : m1 < (0 : Int) := by rw [← hm1, numR4_not a hnc]; decide
      have hge2 : ¬ m1 ≥ (0 : Int) := by omega
      have hge3 : ¬ (0 : Int) ≤ m1 := by omega
      clear hnc hm1 HPB2 HPB hq hst hst2 hAx hA
      go_wp2_with fail
      first | (refine (HPT2.out _).mono ?_) | (go_at_call 127; refine (HPT2.out _).mono ?_)
      rintro e w4 ⟨rfl, hb⟩
      have HB4 := Lib.hid (HB3.out.trans (hb.mono HB3.out.size))
      have HX4 := Lib.hid (heap_below HX3.out hb)
      have HP4 := Lib.hid (heap_below HP3.out hb)
      have HF4 := Lib.hid (HF3.out.trans (Fr.of_below hb _))
      clear hb HPT2 d0
      try clear d1 hb4 hb5
      clear x0 x1 x2 y0 y1 y2 p0 p1 p2 r0 r1 r2
      have d0 := HA.out w4 HF4.out
      obtain ⟨x0, x1, x2, y0, y1, y2⟩ := cells_of3 HX4.out
      obtain ⟨p0, p1, p2, r0, r1, r2⟩ := cells_of3 HP4.out
      go_wp2_with fail
      refine (HN1.out _).mono ?_
      rintro e w5 ⟨rfl, hb⟩
      have HB5 := Lib.hid (HB4.out.trans (hb.mono HB4.out.size))
      have HX5 := Lib.hid (heap_below HX4.out hb)
      have HP5 := Lib.hid (heap_below HP4.out hb)
      clear hb HN1 d0 HA
      clear x0 x1 x2 y0 y1 y2 p0 p1 p2 r0 r1 r2
      obtain ⟨x0, x1, x2, y0, y1, y2⟩ := cells_of3 HX5.out
      obtain ⟨p0, p1, p2, r0, r1, r2⟩ := cells_of3 HP5.out
      go_wp2_with fail
      have HP9 := Lib.hid (show (w5.setCell ⟨w.heap.size + 1, 0, none⟩ (.int .i64 m1)).heap[w.heap.size + 1]? = some (.cells #[.int .i64 m1, .int .i64 (-1), .int .i64 m0] 115 (0, 0)) from heap_setCell HP5.out 0 (.int .i64 m1))
      have HX9 := Lib.hid (heap_other HX5.out (a := ⟨w.heap.size + 1, 0, none⟩) (by simp) (.int .i64 m1))
      have HB9 := Lib.hid (HB5.out.setCell (p := ⟨w.heap.size + 1, 0, none⟩) (by simp) (.int .i64 m1))
      clear x0 x1 x2 y0 y1 y2 p0 p1 p2 r0 r1 r2
      generalize w5.setCell ⟨w.heap.size + 1, 0, none⟩ (.int .i64 m1) = w9 at *
      refine wp_region_drawT (S := fun V => V.heap[w.heap.size + 1]? = some (.cells #[.int .i64 m1, .int .i64 (-1), .int .i64 m0] 115 (0, 0))) 5 (by kernel_rfl) (by kernel_rfl) (by exact HP9.out) (fun hHeld => ?_)
      try simp only [Act.put, List.setIfInBounds_toArray, List.set_cons_zero, List.set_cons_succ]
      refine drawT_take (i := 0) (v := .agg #[.int .i64 m1, .int .i64 (-1), .int .i64 m0]) (List.getElem?_toArray.trans rfl) (by kernel_rfl) (by kernel_rfl) (by kernel_rfl) (by kernel_rfl) (fun _ _ _ h => h) (Or.inl ⟨by rfl, fun W hW => by obtain ⟨p0, p1, p2, -, -, -⟩ := cells_of3 hW; clear hW; go_simp⟩) (by assumption) ?_
      try simp only [Act.put, List.setIfInBounds_toArray, List.set_cons_zero, List.set_cons_succ]
      refine drawT_take (i := 1) (v := .pointer (some ⟨w.heap.size + 1, 0, none⟩)) (List.getElem?_toArray.trans rfl) (by kernel_rfl) (by kernel_rfl) (by kernel_rfl) (by kernel_rfl) (fun _ _ _ h => h) (Or.inl ⟨by rfl, fun W hW => by obtain ⟨p0, p1, p2, -, -, -⟩ := cells_of3 hW; clear hW; go_simp⟩) (by assumption) ?_
      try simp only [Act.put, List.setIfInBounds_toArray, List.set_cons_zero, List.set_cons_succ]
      refine drawT_take (i := 2) (v := .int .i64 m1) (List.getElem?_toArray.trans rfl) (by kernel_rfl) (by kernel_rfl) (by kernel_rfl) (by kernel_rfl) (fun _ _ _ h => h) (Or.inl ⟨by rfl, fun W hW => by obtain ⟨p0, p1, p2, -, -, -⟩ := cells_of3 hW; clear hW; go_simp⟩) (by assumption) ?_
      try simp only [Act.put, List.setIfInBounds_toArray, List.set_cons_zero, List.set_cons_succ]
      refine drawT_take (i := 3) (v := .bool false) (List.getElem?_toArray.trans rfl) (by kernel_rfl) (by kernel_rfl) (by kernel_rfl) (by kernel_rfl) (fun _ _ _ h => h) (Or.inl ⟨by rfl, fun W hW => by obtain ⟨p0, p1, p2, -, -, -⟩ := cells_of3 hW; clear hW; go_simp⟩) (by assumption) ?_
      try simp only [Act.put, List.setIfInBounds_toArray, List.set_cons_zero, List.set_cons_succ]
      obtain ⟨x0, x1, x2, y0, y1, y2⟩ := cells_of3 HX9.out
      refine drawT_one (i := 4) (List.getElem?_toArray.trans rfl) (by kernel_rfl) (by kernel_rfl) (fun K hK => ?_)
      clear hHeld
      rw [if_pos (by rfl)]
      go_simp
      refine hK.out _ _ (by exact heap_other (heap_other (heap_other HP9.out (a := ⟨w.heap.size, 0, none⟩) (by simp) _) (a := ⟨w.heap.size, 1, none⟩) (by simp) _) (a := ⟨w.heap.size, 2, none⟩) (by simp) _) (fun hHeld => ?_)
      clear hK K
      try simp only [Act.put, List.setIfInBounds_toArray, List.set_cons_zero, List.set_cons_succ]
      refine drawT_done (by kernel_rfl) ?_
      clear hHeld
      go_wp2_with fail
      try clear p0 p1 p2 r0 r1 r2
      obtain ⟨p0, p1, p2, r0, r1, r2⟩ := cells_of3 HP9.out
      refine bodyPost_ret (v := .tuple #[.agg #[.int .i64 m1, .int .i64 (-1), .int .i64 m0], .bool (partS s.data.toList).isSome]) ?_ rfl ⟨⟨m1, (-1), m0⟩, rfl, ?_, ?_⟩
      ·rw [HR.out]
       simp [results, Tryz.results94, go_sem, x0, x1, x2, p0, p1, p2]
      ·rw [HR.out]; intro q hq; first | (cases hq; done) | (injection hq)
      ·exact (((HB9.out.setCell (p := ⟨w.heap.size, 0, none⟩) (Nat.le_refl _) _).setCell (p := ⟨w.heap.size, 1, none⟩) (Nat.le_refl _) _).setCell (p := ⟨w.heap.size, 2, none⟩) (Nat.le_refl _) _).trans (below_dn ⟨1, rfl⟩)
    ·obtain ⟨k1, hk1⟩ : ∃ x, x = a.take k := ⟨_, rfl⟩
     obtain ⟨k2, hk2⟩ : ∃ x, x = a.drop (k + 2) := ⟨_, rfl⟩
     have HPB2 := Lib.hid (show partS s.data.toList = if (numC k1).2 = true ∧ (numC k2).2 = true then some ⟨(numC k1).1, (numC k2).1, m0⟩ else none by rw [HPB.out, body_two a _ k hst2 hq, hk1, hk2])
     have HE1 := Lib.hid (show A.extract 0 k = ⟨k1.toArray⟩ by rw [ex_from, hAx, hk1])
     have HE2 := Lib.hid (show A.extract (k + 2) A.size = ⟨k2.toArray⟩ by rw [ex_to, hAx, hk2])
     obtain ⟨m1, hm1⟩ : ∃ m, numR4 k1 = m := ⟨_, rfl⟩
     obtain ⟨m2, hm2⟩ : ∃ m, numR4 k2 = m := ⟨_, rfl⟩
     have HN1 := Lib.hid (fun W => number4_any ⟨k1.toArray⟩ W m1 hm1)
     have HN2 := Lib.hid (fun W => number4_any ⟨k2.toArray⟩ W m2 hm2)
     rw [← HE1.out] at HN1
     rw [← HE2.out] at HN2
     have hAl : A.size = a.length := by rw [← hAx]; simp
     have hk0 : (k : Int) ≥ 0 := by omega
     have hk3 : (0 : Int) ≤ (k : Int) := by omega
     have HK4 := Lib.hid (show k + 2 ≤ A.size by omega)
     rw [hq] at HPT2
     obtain ⟨ok1, hok1⟩ : ∃ b, (numC k1).2 = b := ⟨_, rfl⟩
     obtain ⟨ok2, hok2⟩ : ∃ b, (numC k2).2 = b := ⟨_, rfl⟩
     have HG1 := Lib.hid (show decide (0 ≤ m1) = ok1 by
      rw [← hm1, ← hok1]
      cases h : (numC k1).2 with
      | true => rw [(numR4_yes k1 h).1]; simpa using (numR4_yes k1 h).2
      | false => rw [numR4_not k1 h]; rfl)
     have HG2 := Lib.hid (show decide (0 ≤ m2) = ok2 by
      rw [← hm2, ← hok2]
      cases h : (numC k2).2 with
      | true => rw [(numR4_yes k2 h).1]; simpa using (numR4_yes k2 h).2
      | false => rw [numR4_not k2 h]; rfl)
     have HR0 := Lib.hid (show partS s.data.toList = if ok1 = true ∧ ok2 = true then some ⟨m1, m2, m0⟩ else none by
      rw [HPB2.out, hok1, hok2]
      cases ok1 with
      | false => simp
      | true =>
       cases ok2 with
       | false => simp
       | true => rw [← hm1, ← hm2, (numR4_yes k1 hok1).1, (numR4_yes k2 hok2).1])
     clear hok1 hok2 hm1 hm2 HPB2 HPB hk1 hk2 hkl hq hst hst2 hAx hA hAl
     go_wp2_with fail
     first | (refine (HPT2.out _).mono ?_) | (go_at_call 127; refine (HPT2.out _).mono ?_)
     rintro e w4 ⟨rfl, hb⟩
     have HB4 := Lib.hid (HB3.out.trans (hb.mono HB3.out.size))
     have HX4 := Lib.hid (heap_below HX3.out hb)
     have HP4 := Lib.hid (heap_below HP3.out hb)
     have HF4 := Lib.hid (HF3.out.trans (Fr.of_below hb _))
     clear hb HPT2 d0
     try clear d1 hb4 hb5
     clear x0 x1 x2 y0 y1 y2 p0 p1 p2 r0 r1 r2
     go_wp2_with fail
     have hk4 := HK4.out
     have hk5 : (k : Int) + 2 ≤ (A.size : Int) := by omega
     have hk6 : (k : Int) ≤ (A.size : Int) := by omega
     have hkw : wrap64 ((k : Int) + 2) = (k : Int) + 2 := by unfold wrap64; omega
     have hkw2 : IntKind.i64.wrap ((k : Int) + 2) = (k : Int) + 2 := IntWalk.i64_in _ (by omega)
     have hkt : ((k : Int) + 2).toNat = k + 2 := by omega
     have hk7 : ¬ (k : Int) + 2 < 0 := by omega
     have hk8 : k ≤ A.size := by omega
     have HBJ := Lib.hid (below_dn (B := w4.heap.size) (a := w4) (b := w4.drew) ⟨1, rfl⟩)
     refine wp_region_drawT (S := fun V => Below w4.heap.size w4 V) 14 (by kernel_rfl) (by kernel_rfl) HBJ.out (fun hHeld => ?_)
     try simp only [Act.put, List.setIfInBounds_toArray, List.set_cons_zero, List.set_cons_succ]
     refine drawT_take (i := 0) (v := .slice (some ⟨b4, o4, none⟩) 2 cap) (List.getElem?_toArray.trans rfl) (by kernel_rfl) (by kernel_rfl) (by kernel_rfl) (by kernel_rfl) (fun _ _ _ h => h) (Or.inl ⟨by rfl, fun W hW => by clear hW; go_simp⟩) (by assumption) ?_
     try simp only [Act.put, List.setIfInBounds_toArray, List.set_cons_zero, List.set_cons_succ]
     refine drawT_take (i := 1) (v := .pointer (some ⟨b4, o4, none⟩)) (List.getElem?_toArray.trans rfl) (by kernel_rfl) (by kernel_rfl) (by kernel_rfl) (by kernel_rfl) (fun _ _ _ h => h) (Or.inl ⟨by rfl, fun W hW => by clear hW; go_simp⟩) (by assumption) ?_
     try simp only [Act.put, List.setIfInBounds_toArray, List.set_cons_zero, List.set_cons_succ]
     refine drawT_take (i := 2) (v := .string A) (List.getElem?_toArray.trans rfl) (by kernel_rfl) (by kernel_rfl) (by kernel_rfl) (by kernel_rfl) (fun _ _ _ h => h) (Or.inl ⟨by rfl, fun W hW => by have hf := HF4.out.trans (Fr.of_below hW _); have d0 := HA.out W hf; clear hf hW; go_simp⟩) (by assumption) ?_
     try simp only [Act.put, List.setIfInBounds_toArray, List.set_cons_zero, List.set_cons_succ]
     refine drawT_take (i := 3) (v := .int .i64 k) (List.getElem?_toArray.trans rfl) (by kernel_rfl) (by kernel_rfl) (by kernel_rfl) (by kernel_rfl) (fun _ _ _ h => h) (Or.inl ⟨by rfl, fun W hW => by clear hW; go_simp⟩) (by assumption) ?_
     try simp only [Act.put, List.setIfInBounds_toArray, List.set_cons_zero, List.set_cons_succ]
     refine drawT_take (i := 4) (v := .string (A.extract 0 k)) (List.getElem?_toArray.trans rfl) (by kernel_rfl) (by kernel_rfl) (by kernel_rfl) (by kernel_rfl) (fun _ _ _ h => h) (Or.inl ⟨by rfl, fun W hW => by clear hW; go_simp⟩) (by assumption) ?_
     try simp only [Act.put, List.setIfInBounds_toArray, List.set_cons_zero, List.set_cons_succ]
     refine drawT_take (i := 6) (v := .slice (some ⟨b4, o4, none⟩) 2 cap) (List.getElem?_toArray.trans rfl) (by kernel_rfl) (by kernel_rfl) (by kernel_rfl) (by kernel_rfl) (fun _ _ _ h => h) (Or.inl ⟨by rfl, fun W hW => by clear hW; go_simp⟩) (by assumption) ?_
     try simp only [Act.put, List.setIfInBounds_toArray, List.set_cons_zero, List.set_cons_succ]
     refine drawT_take (i := 7) (v := .pointer (some ⟨b4, o4, none⟩)) (List.getElem?_toArray.trans rfl) (by kernel_rfl) (by kernel_rfl) (by kernel_rfl) (by kernel_rfl) (fun _ _ _ h => h) (Or.inl ⟨by rfl, fun W hW => by clear hW; go_simp⟩) (by assumption) ?_
     try simp only [Act.put, List.setIfInBounds_toArray, List.set_cons_zero, List.set_cons_succ]
     refine drawT_take (i := 8) (v := .string A) (List.getElem?_toArray.trans rfl) (by kernel_rfl) (by kernel_rfl) (by kernel_rfl) (by kernel_rfl) (fun _ _ _ h => h) (Or.inl ⟨by rfl, fun W hW => by have hf := HF4.out.trans (Fr.of_below hW _); have d0 := HA.out W hf; clear hf hW; go_simp⟩) (by assumption) ?_
     try simp only [Act.put, List.setIfInBounds_toArray, List.set_cons_zero, List.set_cons_succ]
     refine drawT_take (i := 9) (v := .int .i64 k) (List.getElem?_toArray.trans rfl) (by kernel_rfl) (by kernel_rfl) (by kernel_rfl) (by kernel_rfl) (fun _ _ _ h => h) (Or.inl ⟨by rfl, fun W hW => by clear hW; go_simp⟩) (by assumption) ?_
     try simp only [Act.put, List.setIfInBounds_toArray, List.set_cons_zero, List.set_cons_succ]
     refine drawT_take (i := 10) (v := .int .i64 (k + 2)) (List.getElem?_toArray.trans rfl) (by kernel_rfl) (by kernel_rfl) (by kernel_rfl) (by kernel_rfl) (fun _ _ _ h => h) (Or.inl ⟨by rfl, fun W hW => by clear hW; go_simp⟩) (by assumption) ?_
     try simp only [Act.put, List.setIfInBounds_toArray, List.set_cons_zero, List.set_cons_succ]
     refine drawT_take (i := 11) (v := .string (A.extract (k + 2) A.size)) (List.getElem?_toArray.trans rfl) (by kernel_rfl) (by kernel_rfl) (by kernel_rfl) (by kernel_rfl) (fun _ _ _ h => h) (Or.inl ⟨by rfl, fun W hW => by clear hW; go_simp⟩) (by assumption) ?_
     try simp only [Act.put, List.setIfInBounds_toArray, List.set_cons_zero, List.set_cons_succ]
     have HW1 := Lib.hid hHeld
     refine drawT_one (i := 5) (List.getElem?_toArray.trans rfl) (by kernel_rfl) (by kernel_rfl) (fun K hK => ?_)
     clear hHeld
     rw [if_pos (by rfl)]
     go_simp
     refine (HN1.out _).mono ?_
     rintro e wc1 ⟨rfl, hb⟩
     have HV1 := Lib.hid (HW1.out.trans (hb.mono HW1.out.size))
     clear hb
     refine hK.out _ _ HV1.out (fun hHeld => ?_)
     clear hK K
     try simp only [Act.put, List.setIfInBounds_toArray, List.set_cons_zero, List.set_cons_succ]
     refine drawT_take (i := 13) (v := .pointer (some ⟨w.heap.size + 1, 0, none⟩)) (List.getElem?_toArray.trans rfl) (by kernel_rfl) (by kernel_rfl) (by kernel_rfl) (by kernel_rfl) (fun _ _ _ h => h) (Or.inl ⟨by rfl, fun W hW => by clear hW; go_simp⟩) (by assumption) ?_
     try simp only [Act.put, List.setIfInBounds_toArray, List.set_cons_zero, List.set_cons_succ]
     have HW2 := Lib.hid hHeld
     refine drawT_one (i := 12) (List.getElem?_toArray.trans rfl) (by kernel_rfl) (by kernel_rfl) (fun K hK => ?_)
     clear hHeld
     rw [if_pos (by rfl)]
     go_simp
     refine (HN2.out _).mono ?_
     rintro e wc2 ⟨rfl, hb⟩
     have HV2 := Lib.hid (HW2.out.trans (hb.mono HW2.out.size))
     clear hb
     refine hK.out _ _ HV2.out (fun hHeld => ?_)
     clear hK K
     try simp only [Act.put, List.setIfInBounds_toArray, List.set_cons_zero, List.set_cons_succ]
     refine drawT_done (by kernel_rfl) ?_
     clear hHeld
     have HB7 := Lib.hid (HB4.out.trans (HV2.out.mono HB4.out.size))
     have HX7 := Lib.hid (heap_below HX4.out HV2.out)
     have HP7 := Lib.hid (heap_below HP4.out HV2.out)
     clear HA HN1 HN2 HW1 HW2 HV1 HV2 HBJ HE1 HE2 hkw
     generalize wc2 = w7 at *
     obtain ⟨x0, x1, x2, y0, y1, y2⟩ := cells_of3 HX7.out
     obtain ⟨p0, p1, p2, r0, r1, r2⟩ := cells_of3 HP7.out
     go_wp2_with fail
     have hP8 := heap_setCell (heap_setCell HP7.out 0 (.int .i64 m1)) 1 (.int .i64 m2)
     have HP9 := Lib.hid (show ((w7.setCell ⟨w.heap.size + 1, 0, none⟩ (.int .i64 m1)).setCell ⟨w.heap.size + 1, 1, none⟩ (.int .i64 m2)).heap[w.heap.size + 1]? = some (.cells #[.int .i64 m1, .int .i64 m2, .int .i64 m0] 115 (0, 0)) from by simpa using hP8)
     have HX9 := Lib.hid (heap_other (heap_other HX7.out (a := ⟨w.heap.size + 1, 0, none⟩) (by simp) (.int .i64 m1)) (a := ⟨w.heap.size + 1, 1, none⟩) (by simp) (.int .i64 m2))
     have HB9 := Lib.hid ((HB7.out.setCell (p := ⟨w.heap.size + 1, 0, none⟩) (by simp) (.int .i64 m1)).setCell (p := ⟨w.heap.size + 1, 1, none⟩) (by simp) (.int .i64 m2))
     clear hP8 HB7 HX7 HP7
     clear x0 x1 x2 y0 y1 y2 p0 p1 p2 r0 r1 r2
     generalize (w7.setCell ⟨w.heap.size + 1, 0, none⟩ (.int .i64 m1)).setCell ⟨w.heap.size + 1, 1, none⟩ (.int .i64 m2) = w9 at *
     cases ok1 with
     | false =>
      have hg1 : ¬ (0 : Int) ≤ m1 := by have := HG1.out; simpa using this
      have hg2 : ¬ m1 ≥ (0 : Int) := hg1
      have hg3 : m1 < 0 := by omega
      have HR := Lib.hid (show partS s.data.toList = none by rw [HR0.out]; simp)
      clear HR0 HG1 HG2
      refine wp_region_drawT (S := fun V => V.heap[w.heap.size + 1]? = some (.cells #[.int .i64 m1, .int .i64 m2, .int .i64 m0] 115 (0, 0))) 10 (by kernel_rfl) (by kernel_rfl) (by exact HP9.out) (fun hHeld => ?_)
      try simp only [Act.put, List.setIfInBounds_toArray, List.set_cons_zero, List.set_cons_succ]
      refine drawT_take (i := 0) (v := .agg #[.int .i64 m1, .int .i64 m2, .int .i64 m0]) (List.getElem?_toArray.trans rfl) (by kernel_rfl) (by kernel_rfl) (by kernel_rfl) (by kernel_rfl) (fun _ _ _ h => h) (Or.inl ⟨by rfl, fun W hW => by obtain ⟨p0, p1, p2, -, -, -⟩ := cells_of3 hW; clear hW; go_simp⟩) (by assumption) ?_
      try simp only [Act.put, List.setIfInBounds_toArray, List.set_cons_zero, List.set_cons_succ]
      refine drawT_take (i := 1) (v := .pointer (some ⟨w.heap.size + 1, 0, none⟩)) (List.getElem?_toArray.trans rfl) (by kernel_rfl) (by kernel_rfl) (by kernel_rfl) (by kernel_rfl) (fun _ _ _ h => h) (Or.inl ⟨by rfl, fun W hW => by obtain ⟨p0, p1, p2, -, -, -⟩ := cells_of3 hW; clear hW; go_simp⟩) (by assumption) ?_
      try simp only [Act.put, List.setIfInBounds_toArray, List.set_cons_zero, List.set_cons_succ]
      refine drawT_take (i := 2) (v := .int .i64 m1) (List.getElem?_toArray.trans rfl) (by kernel_rfl) (by kernel_rfl) (by kernel_rfl) (by kernel_rfl) (fun _ _ _ h => h) (Or.inl ⟨by rfl, fun W hW => by obtain ⟨p0, p1, p2, -, -, -⟩ := cells_of3 hW; clear hW; go_simp⟩) (by assumption) ?_
      try simp only [Act.put, List.setIfInBounds_toArray, List.set_cons_zero, List.set_cons_succ]
      refine drawT_take (i := 3) (v := .bool false) (List.getElem?_toArray.trans rfl) (by kernel_rfl) (by kernel_rfl) (by kernel_rfl) (by kernel_rfl) (fun _ _ _ h => h) (Or.inl ⟨by rfl, fun W hW => by obtain ⟨p0, p1, p2, -, -, -⟩ := cells_of3 hW; clear hW; go_simp⟩) (by assumption) ?_
      try simp only [Act.put, List.setIfInBounds_toArray, List.set_cons_zero, List.set_cons_succ]
      refine drawT_take (i := 4) (v := .bool false) (List.getElem?_toArray.trans rfl) (by kernel_rfl) (by kernel_rfl) (by kernel_rfl) (by kernel_rfl) (fun _ _ _ h => h) (Or.inl ⟨by rfl, fun W hW => by obtain ⟨p0, p1, p2, -, -, -⟩ := cells_of3 hW; clear hW; go_simp⟩) (by assumption) ?_
      try simp only [Act.put, List.setIfInBounds_toArray, List.set_cons_zero, List.set_cons_succ]
      refine drawT_take (i := 5) (v := undef) (List.getElem?_toArray.trans rfl) (by kernel_rfl) (by kernel_rfl) (by kernel_rfl) (by kernel_rfl) (fun _ _ _ h => h) (Or.inr ⟨by rfl, rfl⟩) (by assumption) ?_
      try simp only [Act.put, List.setIfInBounds_toArray, List.set_cons_zero, List.set_cons_succ]
      refine drawT_take (i := 6) (v := undef) (List.getElem?_toArray.trans rfl) (by kernel_rfl) (by kernel_rfl) (by kernel_rfl) (by kernel_rfl) (fun _ _ _ h => h) (Or.inr ⟨by rfl, rfl⟩) (by assumption) ?_
      try simp only [Act.put, List.setIfInBounds_toArray, List.set_cons_zero, List.set_cons_succ]
      refine drawT_take (i := 7) (v := undef) (List.getElem?_toArray.trans rfl) (by kernel_rfl) (by kernel_rfl) (by kernel_rfl) (by kernel_rfl) (fun _ _ _ h => h) (Or.inr ⟨by rfl, rfl⟩) (by assumption) ?_
      try simp only [Act.put, List.setIfInBounds_toArray, List.set_cons_zero, List.set_cons_succ]
      refine drawT_take (i := 8) (v := .bool false) (List.getElem?_toArray.trans rfl) (by kernel_rfl) (by kernel_rfl) (by kernel_rfl) (by kernel_rfl) (fun _ _ _ h => h) (Or.inl ⟨by rfl, fun W hW => by obtain ⟨p0, p1, p2, -, -, -⟩ := cells_of3 hW; clear hW; go_simp⟩) (by assumption) ?_
      try simp only [Act.put, List.setIfInBounds_toArray, List.set_cons_zero, List.set_cons_succ]
      obtain ⟨x0, x1, x2, y0, y1, y2⟩ := cells_of3 HX9.out
      refine drawT_one (i := 9) (List.getElem?_toArray.trans rfl) (by kernel_rfl) (by kernel_rfl) (fun K hK => ?_)
      clear hHeld
      rw [if_pos (by rfl)]
      go_simp
      refine hK.out _ _ (by exact heap_other (heap_other (heap_other HP9.out (a := ⟨w.heap.size, 0, none⟩) (by simp) _) (a := ⟨w.heap.size, 1, none⟩) (by simp) _) (a := ⟨w.heap.size, 2, none⟩) (by simp) _) (fun hHeld => ?_)
      clear hK K
      try simp only [Act.put, List.setIfInBounds_toArray, List.set_cons_zero, List.set_cons_succ]
      refine drawT_done (by kernel_rfl) ?_
      clear hHeld
      go_wp2_with fail
      try clear p0 p1 p2 r0 r1 r2
      obtain ⟨p0, p1, p2, r0, r1, r2⟩ := cells_of3 HP9.out
      refine bodyPost_ret (v := .tuple #[.agg #[.int .i64 m1, .int .i64 m2, .int .i64 m0], .bool (partS s.data.toList).isSome]) ?_ rfl ⟨⟨m1, m2, m0⟩, rfl, ?_, ?_⟩
      ·rw [HR.out]
       simp [results, Tryz.results94, go_sem, x0, x1, x2, p0, p1, p2]
      ·rw [HR.out]; intro q hq; first | (cases hq; done) | (injection hq)
      ·exact (((HB9.out.setCell (p := ⟨w.heap.size, 0, none⟩) (Nat.le_refl _) _).setCell (p := ⟨w.heap.size, 1, none⟩) (Nat.le_refl _) _).setCell (p := ⟨w.heap.size, 2, none⟩) (Nat.le_refl _) _).trans (below_dn ⟨1, rfl⟩)
     | true =>
      have hg1 : (0 : Int) ≤ m1 := by have := HG1.out; simpa using this
      have hg2 : m1 ≥ (0 : Int) := hg1
      cases ok2 with
      | false =>
       have hh1 : ¬ (0 : Int) ≤ m2 := by have := HG2.out; simpa using this
       have hh2 : ¬ m2 ≥ (0 : Int) := hh1
       have hh3 : m2 < 0 := by omega
       have HR := Lib.hid (show partS s.data.toList = none by rw [HR0.out]; simp)
       clear HR0 HG1 HG2
       refine wp_region_drawT (S := fun V => V.heap[w.heap.size + 1]? = some (.cells #[.int .i64 m1, .int .i64 m2, .int .i64 m0] 115 (0, 0))) 10 (by kernel_rfl) (by kernel_rfl) (by exact HP9.out) (fun hHeld => ?_)
       try simp only [Act.put, List.setIfInBounds_toArray, List.set_cons_zero, List.set_cons_succ]
       refine drawT_take (i := 0) (v := .agg #[.int .i64 m1, .int .i64 m2, .int .i64 m0]) (List.getElem?_toArray.trans rfl) (by kernel_rfl) (by kernel_rfl) (by kernel_rfl) (by kernel_rfl) (fun _ _ _ h => h) (Or.inl ⟨by rfl, fun W hW => by obtain ⟨p0, p1, p2, -, -, -⟩ := cells_of3 hW; clear hW; go_simp⟩) (by assumption) ?_
       try simp only [Act.put, List.setIfInBounds_toArray, List.set_cons_zero, List.set_cons_succ]
       refine drawT_take (i := 1) (v := .pointer (some ⟨w.heap.size + 1, 0, none⟩)) (List.getElem?_toArray.trans rfl) (by kernel_rfl) (by kernel_rfl) (by kernel_rfl) (by kernel_rfl) (fun _ _ _ h => h) (Or.inl ⟨by rfl, fun W hW => by obtain ⟨p0, p1, p2, -, -, -⟩ := cells_of3 hW; clear hW; go_simp⟩) (by assumption) ?_
       try simp only [Act.put, List.setIfInBounds_toArray, List.set_cons_zero, List.set_cons_succ]
       refine drawT_take (i := 2) (v := .int .i64 m1) (List.getElem?_toArray.trans rfl) (by kernel_rfl) (by kernel_rfl) (by kernel_rfl) (by kernel_rfl) (fun _ _ _ h => h) (Or.inl ⟨by rfl, fun W hW => by obtain ⟨p0, p1, p2, -, -, -⟩ := cells_of3 hW; clear hW; go_simp⟩) (by assumption) ?_
       try simp only [Act.put, List.setIfInBounds_toArray, List.set_cons_zero, List.set_cons_succ]
       refine drawT_take (i := 3) (v := .bool true) (List.getElem?_toArray.trans rfl) (by kernel_rfl) (by kernel_rfl) (by kernel_rfl) (by kernel_rfl) (fun _ _ _ h => h) (Or.inl ⟨by rfl, fun W hW => by obtain ⟨p0, p1, p2, -, -, -⟩ := cells_of3 hW; clear hW; go_simp⟩) (by assumption) ?_
       try simp only [Act.put, List.setIfInBounds_toArray, List.set_cons_zero, List.set_cons_succ]
       refine drawT_take (i := 4) (v := .bool true) (List.getElem?_toArray.trans rfl) (by kernel_rfl) (by kernel_rfl) (by kernel_rfl) (by kernel_rfl) (fun _ _ _ h => h) (Or.inl ⟨by rfl, fun W hW => by obtain ⟨p0, p1, p2, -, -, -⟩ := cells_of3 hW; clear hW; go_simp⟩) (by assumption) ?_
       try simp only [Act.put, List.setIfInBounds_toArray, List.set_cons_zero, List.set_cons_succ]
       refine drawT_take (i := 5) (v := .pointer (some ⟨w.heap.size + 1, 1, none⟩)) (List.getElem?_toArray.trans rfl) (by kernel_rfl) (by kernel_rfl) (by kernel_rfl) (by kernel_rfl) (fun _ _ _ h => h) (Or.inl ⟨by rfl, fun W hW => by obtain ⟨p0, p1, p2, -, -, -⟩ := cells_of3 hW; clear hW; go_simp⟩) (by assumption) ?_
       try simp only [Act.put, List.setIfInBounds_toArray, List.set_cons_zero, List.set_cons_succ]
       refine drawT_take (i := 6) (v := .int .i64 m2) (List.getElem?_toArray.trans rfl) (by kernel_rfl) (by kernel_rfl) (by kernel_rfl) (by kernel_rfl) (fun _ _ _ h => h) (Or.inl ⟨by rfl, fun W hW => by obtain ⟨p0, p1, p2, -, -, -⟩ := cells_of3 hW; clear hW; go_simp⟩) (by assumption) ?_
       try simp only [Act.put, List.setIfInBounds_toArray, List.set_cons_zero, List.set_cons_succ]
       refine drawT_take (i := 7) (v := .bool false) (List.getElem?_toArray.trans rfl) (by kernel_rfl) (by kernel_rfl) (by kernel_rfl) (by kernel_rfl) (fun _ _ _ h => h) (Or.inl ⟨by rfl, fun W hW => by obtain ⟨p0, p1, p2, -, -, -⟩ := cells_of3 hW; clear hW; go_simp⟩) (by assumption) ?_
       try simp only [Act.put, List.setIfInBounds_toArray, List.set_cons_zero, List.set_cons_succ]
       refine drawT_take (i := 8) (v := .bool false) (List.getElem?_toArray.trans rfl) (by kernel_rfl) (by kernel_rfl) (by kernel_rfl) (by kernel_rfl) (fun _ _ _ h => h) (Or.inl ⟨by rfl, fun W hW => by obtain ⟨p0, p1, p2, -, -, -⟩ := cells_of3 hW; clear hW; go_simp⟩) (by assumption) ?_
       try simp only [Act.put, List.setIfInBounds_toArray, List.set_cons_zero, List.set_cons_succ]
       obtain ⟨x0, x1, x2, y0, y1, y2⟩ := cells_of3 HX9.out
       refine drawT_one (i := 9) (List.getElem?_toArray.trans rfl) (by kernel_rfl) (by kernel_rfl) (fun K hK => ?_)
       clear hHeld
       rw [if_pos (by rfl)]
       go_simp
       refine hK.out _ _ (by exact heap_other (heap_other (heap_other HP9.out (a := ⟨w.heap.size, 0, none⟩) (by simp) _) (a := ⟨w.heap.size, 1, none⟩) (by simp) _) (a := ⟨w.heap.size, 2, none⟩) (by simp) _) (fun hHeld => ?_)
       clear hK K
       try simp only [Act.put, List.setIfInBounds_toArray, List.set_cons_zero, List.set_cons_succ]
       refine drawT_done (by kernel_rfl) ?_
       clear hHeld
       go_wp2_with fail
       try clear p0 p1 p2 r0 r1 r2
       obtain ⟨p0, p1, p2, r0, r1, r2⟩ := cells_of3 HP9.out
       refine bodyPost_ret (v := .tuple #[.agg #[.int .i64 m1, .int .i64 m2, .int .i64 m0], .bool (partS s.data.toList).isSome]) ?_ rfl ⟨⟨m1, m2, m0⟩, rfl, ?_, ?_⟩
       ·rw [HR.out]
        simp [results, Tryz.results94, go_sem, x0, x1, x2, p0, p1, p2]
       ·rw [HR.out]; intro q hq; first | (cases hq; done) | (injection hq)
       ·exact (((HB9.out.setCell (p := ⟨w.heap.size, 0, none⟩) (Nat.le_refl _) _).setCell (p := ⟨w.heap.size, 1, none⟩) (Nat.le_refl _) _).setCell (p := ⟨w.heap.size, 2, none⟩) (Nat.le_refl _) _).trans (below_dn ⟨1, rfl⟩)
      | true =>
       have hh1 : (0 : Int) ≤ m2 := by have := HG2.out; simpa using this
       have hh2 : m2 ≥ (0 : Int) := hh1
       have HR := Lib.hid (show partS s.data.toList = some ⟨m1, m2, m0⟩ by rw [HR0.out]; simp)
       clear HR0 HG1 HG2
       refine wp_region_drawT (S := fun V => V.heap[w.heap.size + 1]? = some (.cells #[.int .i64 m1, .int .i64 m2, .int .i64 m0] 115 (0, 0))) 10 (by kernel_rfl) (by kernel_rfl) (by exact HP9.out) (fun hHeld => ?_)
       try simp only [Act.put, List.setIfInBounds_toArray, List.set_cons_zero, List.set_cons_succ]
       refine drawT_take (i := 0) (v := .agg #[.int .i64 m1, .int .i64 m2, .int .i64 m0]) (List.getElem?_toArray.trans rfl) (by kernel_rfl) (by kernel_rfl) (by kernel_rfl) (by kernel_rfl) (fun _ _ _ h => h) (Or.inl ⟨by rfl, fun W hW => by obtain ⟨p0, p1, p2, -, -, -⟩ := cells_of3 hW; clear hW; go_simp⟩) (by assumption) ?_
       try simp only [Act.put, List.setIfInBounds_toArray, List.set_cons_zero, List.set_cons_succ]
       refine drawT_take (i := 1) (v := .pointer (some ⟨w.heap.size + 1, 0, none⟩)) (List.getElem?_toArray.trans rfl) (by kernel_rfl) (by kernel_rfl) (by kernel_rfl) (by kernel_rfl) (fun _ _ _ h => h) (Or.inl ⟨by rfl, fun W hW => by obtain ⟨p0, p1, p2, -, -, -⟩ := cells_of3 hW; clear hW; go_simp⟩) (by assumption) ?_
       try simp only [Act.put, List.setIfInBounds_toArray, List.set_cons_zero, List.set_cons_succ]
       refine drawT_take (i := 2) (v := .int .i64 m1) (List.getElem?_toArray.trans rfl) (by kernel_rfl) (by kernel_rfl) (by kernel_rfl) (by kernel_rfl) (fun _ _ _ h => h) (Or.inl ⟨by rfl, fun W hW => by obtain ⟨p0, p1, p2, -, -, -⟩ := cells_of3 hW; clear hW; go_simp⟩) (by assumption) ?_
       try simp only [Act.put, List.setIfInBounds_toArray, List.set_cons_zero, List.set_cons_succ]
       refine drawT_take (i := 3) (v := .bool true) (List.getElem?_toArray.trans rfl) (by kernel_rfl) (by kernel_rfl) (by kernel_rfl) (by kernel_rfl) (fun _ _ _ h => h) (Or.inl ⟨by rfl, fun W hW => by obtain ⟨p0, p1, p2, -, -, -⟩ := cells_of3 hW; clear hW; go_simp⟩) (by assumption) ?_
       try simp only [Act.put, List.setIfInBounds_toArray, List.set_cons_zero, List.set_cons_succ]
       refine drawT_take (i := 4) (v := .bool true) (List.getElem?_toArray.trans rfl) (by kernel_rfl) (by kernel_rfl) (by kernel_rfl) (by kernel_rfl) (fun _ _ _ h => h) (Or.inl ⟨by rfl, fun W hW => by obtain ⟨p0, p1, p2, -, -, -⟩ := cells_of3 hW; clear hW; go_simp⟩) (by assumption) ?_
       try simp only [Act.put, List.setIfInBounds_toArray, List.set_cons_zero, List.set_cons_succ]
       refine drawT_take (i := 5) (v := .pointer (some ⟨w.heap.size + 1, 1, none⟩)) (List.getElem?_toArray.trans rfl) (by kernel_rfl) (by kernel_rfl) (by kernel_rfl) (by kernel_rfl) (fun _ _ _ h => h) (Or.inl ⟨by rfl, fun W hW => by obtain ⟨p0, p1, p2, -, -, -⟩ := cells_of3 hW; clear hW; go_simp⟩) (by assumption) ?_
       try simp only [Act.put, List.setIfInBounds_toArray, List.set_cons_zero, List.set_cons_succ]
       refine drawT_take (i := 6) (v := .int .i64 m2) (List.getElem?_toArray.trans rfl) (by kernel_rfl) (by kernel_rfl) (by kernel_rfl) (by kernel_rfl) (fun _ _ _ h => h) (Or.inl ⟨by rfl, fun W hW => by obtain ⟨p0, p1, p2, -, -, -⟩ := cells_of3 hW; clear hW; go_simp⟩) (by assumption) ?_
       try simp only [Act.put, List.setIfInBounds_toArray, List.set_cons_zero, List.set_cons_succ]
       refine drawT_take (i := 7) (v := .bool true) (List.getElem?_toArray.trans rfl) (by kernel_rfl) (by kernel_rfl) (by kernel_rfl) (by kernel_rfl) (fun _ _ _ h => h) (Or.inl ⟨by rfl, fun W hW => by obtain ⟨p0, p1, p2, -, -, -⟩ := cells_of3 hW; clear hW; go_simp⟩) (by assumption) ?_
       try simp only [Act.put, List.setIfInBounds_toArray, List.set_cons_zero, List.set_cons_succ]
       refine drawT_take (i := 8) (v := .bool true) (List.getElem?_toArray.trans rfl) (by kernel_rfl) (by kernel_rfl) (by kernel_rfl) (by kernel_rfl) (fun _ _ _ h => h) (Or.inl ⟨by rfl, fun W hW => by obtain ⟨p0, p1, p2, -, -, -⟩ := cells_of3 hW; clear hW; go_simp⟩) (by assumption) ?_
       try simp only [Act.put, List.setIfInBounds_toArray, List.set_cons_zero, List.set_cons_succ]
       obtain ⟨x0, x1, x2, y0, y1, y2⟩ := cells_of3 HX9.out
       refine drawT_one (i := 9) (List.getElem?_toArray.trans rfl) (by kernel_rfl) (by kernel_rfl) (fun K hK => ?_)
       clear hHeld
       rw [if_pos (by rfl)]
       go_simp
       refine hK.out _ _ (by exact heap_other (heap_other (heap_other HP9.out (a := ⟨w.heap.size, 0, none⟩) (by simp) _) (a := ⟨w.heap.size, 1, none⟩) (by simp) _) (a := ⟨w.heap.size, 2, none⟩) (by simp) _) (fun hHeld => ?_)
       clear hK K
       try simp only [Act.put, List.setIfInBounds_toArray, List.set_cons_zero, List.set_cons_succ]
       refine drawT_done (by kernel_rfl) ?_
       clear hHeld
       go_wp2_with fail
       try clear p0 p1 p2 r0 r1 r2
       obtain ⟨p0, p1, p2, r0, r1, r2⟩ := cells_of3 HP9.out
       refine bodyPost_ret (v := .tuple #[.agg #[.int .i64 m1, .int .i64 m2, .int .i64 m0], .bool (partS s.data.toList).isSome]) ?_ rfl ⟨⟨m1, m2, m0⟩, rfl, ?_, ?_⟩
       ·rw [HR.out]
        simp [results, Tryz.results94, go_sem, x0, x1, x2, p0, p1, p2]
       ·rw [HR.out]; intro q hq; first | (cases hq; done) | (injection hq)
       ·exact (((HB9.out.setCell (p := ⟨w.heap.size, 0, none⟩) (Nat.le_refl _) _).setCell (p := ⟨w.heap.size, 1, none⟩) (Nat.le_refl _) _).setCell (p := ⟨w.heap.size, 2, none⟩) (Nat.le_refl _) _).trans (below_dn ⟨1, rfl⟩)
 ·have hn2 : (n : Int) > 2 := by rw [hn]; simp; omega
  have hn3 : (2 : Int) < (n : Int) := hn2
  have HR := Lib.hid (show partS s.data.toList = none from HPT.out)
  clear HPT HMEM hl0 hn
  obtain ⟨x0, x1, x2, y0, y1, y2⟩ := cells_of3 HX1.out
  obtain ⟨p0, p1, p2, r0, r1, r2⟩ := cells_of3 HP1.out
  go_wp2_with fail
  refine bodyPost_ret (v := .tuple #[.agg #[.int .i64 (-1), .int .i64 (-1), .int .i64 0], .bool (partS s.data.toList).isSome]) ?_ rfl ⟨⟨(-1), (-1), 0⟩, rfl, ?_, ?_⟩
  ·rw [HR.out]
   simp [results, Tryz.results94, go_sem, x0, x1, x2, p0, p1, p2]
  ·rw [HR.out]; intro q hq; first | (cases hq; done) | (injection hq)
  ·exact (((HB1.out.setCell (p := ⟨w.heap.size, 0, none⟩) (Nat.le_refl _) _).setCell (p := ⟨w.heap.size, 1, none⟩) (Nat.le_refl _) _).setCell (p := ⟨w.heap.size, 2, none⟩) (Nat.le_refl _) _)
end Go.Proofs.YtdpnahojhmkemaaGreatDoor
