import Derived.Test.YtdpnahojhmkemaaGreatDoorKP4
import Derived.Test.YtdpnahojhmkemaaGreatDoorKP27
namespace Go.Proofs.YtdpnahojhmkemaaGreatDoor
open Go Go.RowKit
set_option linter.unusedVariables false
set_option linter.unusedSimpArgs false
set_option maxRecDepth 100000
set_option maxHeartbeats 4000000 in
theorem findR_any (s n : Str) (w : World) : Calls Tryz.prog 14 #[.string ⟨s.toArray⟩, .string ⟨n.toArray⟩] w fun e w' => FindOut w s n e w' := by
 let w1 := w.alloc (.cells #[.string ⟨#[]⟩, .string ⟨#[]⟩, .int .i64 0, .bool false, .int .i64 0, .slice none 0 0] 28)
 have hB1 : Below w.heap.size w w1 := (Below.refl _ _).alloc (Nat.le_refl _) _
 have g1 : w1.heap[w.heap.size]? = some (.cells #[.string ⟨#[]⟩, .string ⟨#[]⟩, .int .i64 0, .bool false, .int .i64 0, .slice none 0 0] 28 (0, 0)) := heap_alloc_new w _
 have HA := Lib.hid (keysR_any w1)
 have HB := Lib.hid hB1
 have G1 := Lib.hid g1
 clear hB1 g1
 go_enter Tryz.func14, Tryz.ntmps14
 go_wp2_with fail
 refine HA.out.mono ?_
 rintro e w4 ⟨oa, cap, vs, rfl, hr, hk, hb4⟩
 have HR := Lib.hid hr; have HK := Lib.hid hk
 have HB4 := Lib.hid (HB.out.trans (hb4.mono HB.out.size))
 have H1 := Lib.hid (heap_below G1.out hb4)
 have hln : vs.length = 42 := by rw [hk.1]; exact allKeys_len
 have HLN := Lib.hid hln
 obtain ⟨K, hK⟩ : ∃ K, K = w.heap.size := ⟨_, rfl⟩
 have HKw := Lib.hid hK
 rw [← hK] at H1 ⊢
 clear hr hk hb4 HB G1 HA hln hK
 go_wp2_with fail
 go_loopg [10] 43 (fun f i wr => ∃ k : Nat, k ≤ 42 ∧ i = .int .i64 k ∧ 42 - k < f ∧ Hid (Below w4.heap.size w4 wr) ∧ Hid ((allKeys.drop k).find? (fun k => k.sec == s && k.name == n) = findKey s n))
 case atStart => exact ⟨0, by omega, rfl, by omega, Below.refl _ _, rfl⟩
 case round =>
  obtain ⟨k, hk, rfl, hfu, HW, HF⟩ := hrel
  have H2 := Lib.hid (heap_below H1.out HW.out)
  by_cases hlt : k < 42
  ·have hz : (k : Int) < 42 := by omega
   have hkv : k < vs.length := by rw [HLN.out]; exact hlt
   have hka : k < allKeys.length := by rw [allKeys_len]; exact hlt
   obtain ⟨x, hx⟩ : ∃ x, x = vs[k] := ⟨_, rfl⟩
   obtain ⟨q, hq⟩ : ∃ q, q = allKeys[k] := ⟨_, rfl⟩
   have HX := Lib.hid (show KvRd wr x q from by rw [hx, hq]; exact (HK.out.2 k hkv hka).below HW.out)
   have hd : allKeys.drop k = q :: allKeys.drop (k + 1) := by rw [hq]; exact List.drop_eq_getElem_cons hka
   have hF := HF.out
   rw [hd, List.find?_cons] at hF
   obtain ⟨b3, o3, rfl, hblt, hcc⟩ := (HR.out.below HW.out) k hkv
   rw [← hx] at hcc
   have d0 := hcc 0 _ rfl; have d1 := hcc 1 _ rfl; have d2 := hcc 2 _ rfl; have d3 := hcc 3 _ rfl; have d4 := hcc 4 _ rfl; have d5 := hcc 5 _ rfl
   simp only [Nat.add_zero] at d0
   have HB5 := Lib.hid (HW.out.trans ((Below.refl wr.heap.size wr).alloc (Nat.le_refl _) (.cells (encK x).toArray 28) |>.mono HW.out.size))
   rw [← HX.out.sec, ← HX.out.name] at hF
   clear hx hq hd hcc HF hblt hkv hka
   cases h1 : (x.sec == s) with
   | false =>
    rw [h1] at hF
    have HF2 := Lib.hid (show (allKeys.drop (k + 1)).find? (fun k => k.sec == s && k.name == n) = findKey s n from hF)
    clear hF
    unfold encK at *
    go_wp2_with fail
    go_roundg (42 - k)
    case measure => omega
    case rel => exact ⟨k + 1, by omega, by go_num, by omega, HB5, HF2⟩
   | true =>
    rw [h1] at hF
    cases h2 : (x.name == n) with
    | false =>
     rw [h2] at hF
     have HF2 := Lib.hid (show (allKeys.drop (k + 1)).find? (fun k => k.sec == s && k.name == n) = findKey s n from hF)
     clear hF
     unfold encK at *
     go_wp2_with fail
     go_roundg (42 - k)
     case measure => omega
     case rel => exact ⟨k + 1, by omega, by go_num, by omega, HB5, HF2⟩
    | true =>
     rw [h2] at hF
     have HF2 := Lib.hid (show findKey s n = some q from hF.symm)
     clear hF
     have H3 := Lib.hid (heap_alloc H2.out (.cells (encK x).toArray 28))
     obtain ⟨c3, f3, s3, l3⟩ := rd H3.out
     have c30 := c3 0; have c31 := c3 1; have c32 := c3 2; have c33 := c3 3; have c34 := c3 4; have c35 := c3 5
     have f30 := f3 0; have f31 := f3 1; have f32 := f3 2; have f33 := f3 3; have f34 := f3 4; have f35 := f3 5
     simp only [List.getElem?_toArray, List.getElem?_cons_zero, List.getElem?_cons_succ] at c30 c31 c32 c33 c34 c35
     clear c3 f3
     have hne : K ≠ wr.heap.size := by have := lt_heap H2.out; omega
     clear l3
     have HSC := Lib.hid (show Fr (fun j => j = K) (wr.alloc (.cells (encK x).toArray 28)) (((((((wr.alloc (.cells (encK x).toArray 28)).setCell ⟨K, 0, none⟩ (.string ⟨x.sec.toArray⟩)).setCell ⟨K, 1, none⟩ (.string ⟨x.name.toArray⟩)).setCell ⟨K, 2, none⟩ (.int .i64 x.form)).setCell ⟨K, 3, none⟩ (.bool x.list)).setCell ⟨K, 4, none⟩ (.int .i64 x.kinds)).setCell ⟨K, 5, none⟩ (.slice x.wa x.wn x.wc)) from (Fr.setCell (M := fun j => j = K) (p := ⟨K, 5, none⟩) (Fr.setCell (M := fun j => j = K) (p := ⟨K, 4, none⟩) (Fr.setCell (M := fun j => j = K) (p := ⟨K, 3, none⟩) (Fr.setCell (M := fun j => j = K) (p := ⟨K, 2, none⟩) (Fr.setCell (M := fun j => j = K) (p := ⟨K, 1, none⟩) (Fr.setCell (M := fun j => j = K) (p := ⟨K, 0, none⟩) (Fr.refl _ _) (fun _ => rfl) _) (fun _ => rfl) _) (fun _ => rfl) _) (fun _ => rfl) _) (fun _ => rfl) _) (fun _ => rfl) _))
     have HX2 := Lib.hid (HX.out.below ((Below.refl wr.heap.size wr).alloc (Nat.le_refl _) (.cells (encK x).toArray 28)))
     clear HX
     unfold encK at *
     go_wp2_with fail
     refine bodyPost_ret (v := .tuple #[.agg (encK x).toArray, .bool (findKey s n).isSome]) ?_ rfl ⟨x, rfl, ?_, ?_⟩
     ·rw [HF2.out]
      simp [results, Tryz.results14, go_sem, encK, c30, c31, c32, c33, c34, c35]
     ·rw [HF2.out]
      exact { HX2.out with ww := HX2.out.ww.imp id fun ⟨B, q⟩ => ⟨B, q.1, by
       rcases q.2 with hn | ⟨g, cp, cur, hv, hg, hgg, rest⟩
       ·exact .inl hn
       ·refine .inr ⟨g, cp, cur, hv, hg, HSC.out.heap hgg (fun e => ?_), rest⟩
        rw [e, H3.out] at hgg
        simp at hgg⟩ }
     ·have h := HKw.out
      have hB := HB4.out.trans (HB5.out.mono HB4.out.size)
      exact (((((hB.setCell (by simp; omega) _).setCell (by simp; omega) _).setCell (by simp; omega) _).setCell (by simp; omega) _).setCell (by simp; omega) _).setCell (by simp; omega) _
  ·have hz : ¬ ((k : Int) < 42) := by omega
   have HF2 := Lib.hid (show findKey s n = none by have h := HF.out; rw [List.drop_eq_nil_of_le (by rw [allKeys_len]; omega)] at h; exact h.symm)
   obtain ⟨c3, f3, s3, l3⟩ := rd H2.out
   have c30 := c3 0; have c31 := c3 1; have c32 := c3 2; have c33 := c3 3; have c34 := c3 4; have c35 := c3 5
   have f30 := f3 0; have f31 := f3 1; have f32 := f3 2; have f33 := f3 3; have f34 := f3 4; have f35 := f3 5
   simp only [List.getElem?_toArray, List.getElem?_cons_zero, List.getElem?_cons_succ] at c30 c31 c32 c33 c34 c35
   clear c3 f3 HF
   go_wp2_with fail
   refine bodyPost_ret (v := .tuple #[.agg (encK zeroKV).toArray, .bool (findKey s n).isSome]) ?_ rfl ⟨zeroKV, rfl, ?_, ?_⟩
   ·rw [HF2.out]
    simp [results, Tryz.results14, go_sem, encK, zeroKV, c30, c31, c32, c33, c34, c35]
   ·rw [HF2.out]; exact KvRd.zero _
   ·have h := HKw.out
    have hB := HB4.out.trans (HW.out.mono HB4.out.size)
    exact (((((hB.setCell (by simp; omega) _).setCell (by simp; omega) _).setCell (by simp; omega) _).setCell (by simp; omega) _).setCell (by simp; omega) _).setCell (by simp; omega) _
end Go.Proofs.YtdpnahojhmkemaaGreatDoor
