/-
  Package keys: word.
-/
import Derived.Test.YtdpnahojhmkemaaGreatDoorKeys1
import Derived.Test.YtdpnahojhmkemaaGreatDoorShelf
namespace Go.Proofs.YtdpnahojhmkemaaGreatDoor
open Go Go.RowKit
set_option linter.unusedVariables false
set_option linter.unusedSimpArgs false
set_option maxRecDepth 100000

/-- A cell of an owned row of any size, written anew. -/
theorem own_set_at {w : World} {base k : Nat} {e : TypeId} {g n cap : Nat} {xs : List Value} (h : w.ownsRow base e k (.slice (some ⟨g, 0, none⟩) n cap) n xs) (j : Nat) (hj : j < xs.length) (y : Value) :
    (w.setCell ⟨g, j, none⟩ y).ownsRow base e k (.slice (some ⟨g, 0, none⟩) n cap) n (xs.set j y) ∧ (∃ x, w.cell? ⟨g, j, none⟩ = some x) ∧ w.frozen? ⟨g, j, none⟩ = false ∧ base ≤ g ∧ g < w.heap.size ∧ (∃ s, w.shape? g = some (e, s)) := by
  have hl : xs.length = n * k := h.1
  rcases h.2 with ⟨h0, _⟩ | ⟨g', cap', cur, hv, hb, hg, hnc, hcm, hcs, ht⟩
  · cases h0
  · injection hv with e1 e2 e3
    injection e1 with e1
    injection e1 with e1 _ _
    subst e1; subst e3
    have hsz : j < cur.size := by
      have := congrArg List.length ht
      rw [List.length_take, Array.length_toList] at this
      omega
    refine ⟨⟨by simp [hl], .inr ⟨g, cap, cur.setIfInBounds j y, rfl, hb, heap_setCell hg j y, hnc, hcm, by simpa using hcs, ?_⟩⟩, ⟨cur[j], by simp [World.cell?, hg, hsz]⟩, by simp [World.frozen?, hg], hb, lt_heap hg, ⟨cur.size, by simp [World.shape?, hg]⟩⟩
    rw [Array.toList_setIfInBounds, List.take_set, ht]
theorem infoStr : (Tryz.prog.info? 9).map (fun i => (i.zero, i.size, i.bytes)) = some (some (.string ⟨#[]⟩), 1, 16) := by kernel_rfl
/-- Words that a key bears: a row of its own. -/
def WordsAt (w : World) (B : Nat) (k : KeyV) (words : List Str) : Prop := k.wn = words.length ∧ w.ownsRow B 9 1 (.slice k.wa k.wn k.wc) k.wn (strVals words)
theorem own_frb {w w' : World} {P B B' k n : Nat} {e e' : TypeId} {v : Value} {xs : List Value} (h : w.ownsRow B' e' k v n xs) (hf : FrB P B e w w') (he : e' ≠ e) (hP : v.ownBlock ≠ some P) : w'.ownsRow B' e' k v n xs := by
  refine ⟨h.1, ?_⟩
  rcases h.2 with hn | ⟨g, cap, cur, rfl, hg, hgg, rest⟩
  · exact .inl hn
  · refine .inr ⟨g, cap, cur, rfl, hg, ?_, rest⟩
    exact hf.heap hgg (fun q => hP (by simp [Value.ownBlock, q])) he

set_option maxHeartbeats 2000000 in
theorem word_any (P B : Nat) (sec : Str) (kinds : Int) (kvs : List KeyV) (name : Str) (WB wc : Nat) (words : List Str) (w : World) (hG : GrpAt w P B sec kinds kvs) (hPB : P < B) (hBw : B ≤ w.heap.size)
    (hW : w.heap[WB]? = some (.cells (strVals words).toArray 9 (0, 0))) (hl : words.length ≤ 100) (hk : kvs.length ≤ 90) :
    Calls Tryz.prog 22 #[.pointer (some ⟨P, 0, none⟩), .string ⟨name.toArray⟩, .slice (some ⟨WB, 0, none⟩) words.length wc] w fun e w' => e = .returned (.tuple #[]) ∧ ∃ k : KeyV, (k.sec = sec ∧ k.name = name ∧ k.form = 10 ∧ k.list = false ∧ k.kinds = kinds) ∧ WordsAt w' w.heap.size k words ∧ GrpAt w' P B sec kinds (kvs ++ [k]) ∧ FrB P B 28 w w' := by
  obtain ⟨i0, hi0, hz0, hz1, hz2⟩ := info_parts infoStr
  have hb1 := (Below.refl w.heap.size w).alloc (Nat.le_refl _) (.cells #[.string ⟨name.toArray⟩] 9)
  have HS := Lib.hid (some_any P B sec kinds 10 false kvs w.heap.size 1 [name] (w.alloc (.cells #[.string ⟨name.toArray⟩] 9)) (hG.below hb1) hPB (Nat.le_trans hBw hb1.size) (heap_alloc_new w _) (by simp) (by omega))
  have HW := Lib.hid hW
  have HWP := Lib.hid (show WB ≠ P from by rintro rfl; obtain ⟨ga, gc, h1, _⟩ := hG.ex; rw [hW] at h1; simp at h1)
  have HB1 := Lib.hid hb1
  have HW1 := Lib.hid (heap_below hW hb1)
  clear hG hW hb1
  go_enter Tryz.func22, Tryz.ntmps22
  go_wp2_with fail
  refine HS.out.mono ?_
  rintro e w2 ⟨rfl, hg2, hf2⟩
  have hf0 : FrB P B 28 w w2 := FrB.trans (show FrB P B 28 w (w.alloc (.cells #[.string ⟨name.toArray⟩] 9)) from Fr.of_below HB1.out _) hf2
  have HF2 := Lib.hid hf0
  have HW2 := Lib.hid (hf2.heap HW1.out HWP.out (by decide))
  obtain ⟨ga, gc, hbx, hown⟩ := hg2.ex
  have HBX := Lib.hid hbx; have HOW := Lib.hid hown
  have hln : (kvs ++ [name].map (plainK sec kinds 10 false)).length = kvs.length + 1 := by simp
  rw [hln] at HBX HOW
  obtain ⟨g, gc', e3, hcell, hBg, hglt⟩ := own_openK HOW.out (by omega)
  injection e3 with e3 _ e4
  subst e3; subst e4
  have HC := Lib.hid (fun V (h : V.os = V.os ∨ True) (hc : ∀ j u, (strVals words)[j]? = some u → V.cell? ⟨WB, 0 + j, none⟩ = some u) => Tryz.slices_Clone i0 (.string ⟨#[]⟩) 1 16 hi0 hz0 hz1 hz2 (by rfl) (by decide) (fun w => by rfl) WB 0 words.length wc (strVals words) V (by simp [strVals]) (by unfold maxLen; omega) (by omega) hc (strVals_one _))
  have HST := Lib.hid (own_set_at HOW.out (kvs.length * 6 + 5) (by rw [HOW.out.1]; omega))
  have hflat : flatL encK (kvs ++ [name].map (plainK sec kinds 10 false)) = flatL encK kvs ++ encK (plainK sec kinds 10 false name) := by rw [flatL_append]; simp [flatL]
  have HFL := Lib.hid hflat
  have hgP : g ≠ P := by omega
  have i1 : (kvs.length : Int) ≤ 90 := by omega
  have i2 : IntKind.i64.wrap (kvs.length : Int) = (kvs.length : Int) := IntWalk.i64_in _ (by omega)
  clear hf2 hf0 hg2 hbx hown hcell hln hflat HS HW1
  go_wp2_with fail
  refine wp_region_drawT (S := fun V => V.heap[P]? = some (.cells #[.string ⟨sec.toArray⟩, .int .i64 kinds, .slice (some ⟨g, 0, none⟩) (kvs.length + 1) gc] 49 (0, 0)) ∧ Below w2.heap.size w2 V) 12 (by kernel_rfl) (by kernel_rfl) ⟨HBX.out, below_dn ⟨1, rfl⟩⟩ (fun hHeld => ?_)
  try simp only [Act.put, List.setIfInBounds_toArray, List.set_cons_zero, List.set_cons_succ]
  refine drawT_take (i := 0) (v := .pointer (some ⟨P, 0, none⟩)) (List.getElem?_toArray.trans rfl) (by kernel_rfl) (by kernel_rfl) (by kernel_rfl) (by kernel_rfl) (fun _ _ _ h => h) (Or.inl ⟨by rfl, fun W hW => by obtain ⟨q0, q1, q2⟩ := cells3 hW.1; clear hW; go_simp⟩) (by assumption) ?_
  try simp only [Act.put, List.setIfInBounds_toArray, List.set_cons_zero, List.set_cons_succ]
  refine drawT_take (i := 1) (v := .pointer (some ⟨P, 0, none⟩)) (List.getElem?_toArray.trans rfl) (by kernel_rfl) (by kernel_rfl) (by kernel_rfl) (by kernel_rfl) (fun _ _ _ h => h) (Or.inl ⟨by rfl, fun W hW => by obtain ⟨q0, q1, q2⟩ := cells3 hW.1; clear hW; go_simp⟩) (by assumption) ?_
  try simp only [Act.put, List.setIfInBounds_toArray, List.set_cons_zero, List.set_cons_succ]
  refine drawT_take (i := 2) (v := .pointer (some ⟨P, 2, none⟩)) (List.getElem?_toArray.trans rfl) (by kernel_rfl) (by kernel_rfl) (by kernel_rfl) (by kernel_rfl) (fun _ _ _ h => h) (Or.inl ⟨by rfl, fun W hW => by obtain ⟨q0, q1, q2⟩ := cells3 hW.1; clear hW; go_simp⟩) (by assumption) ?_
  try simp only [Act.put, List.setIfInBounds_toArray, List.set_cons_zero, List.set_cons_succ]
  refine drawT_take (i := 3) (v := .slice (some ⟨g, 0, none⟩) (kvs.length + 1) gc) (List.getElem?_toArray.trans rfl) (by kernel_rfl) (by kernel_rfl) (by kernel_rfl) (by kernel_rfl) (fun _ _ _ h => h) (Or.inl ⟨by rfl, fun W hW => by obtain ⟨q0, q1, q2⟩ := cells3 hW.1; clear hW; go_simp⟩) (by assumption) ?_
  try simp only [Act.put, List.setIfInBounds_toArray, List.set_cons_zero, List.set_cons_succ]
  refine drawT_take (i := 4) (v := .pointer (some ⟨P, 0, none⟩)) (List.getElem?_toArray.trans rfl) (by kernel_rfl) (by kernel_rfl) (by kernel_rfl) (by kernel_rfl) (fun _ _ _ h => h) (Or.inl ⟨by rfl, fun W hW => by obtain ⟨q0, q1, q2⟩ := cells3 hW.1; clear hW; go_simp⟩) (by assumption) ?_
  try simp only [Act.put, List.setIfInBounds_toArray, List.set_cons_zero, List.set_cons_succ]
  refine drawT_take (i := 5) (v := .pointer (some ⟨P, 0, none⟩)) (List.getElem?_toArray.trans rfl) (by kernel_rfl) (by kernel_rfl) (by kernel_rfl) (by kernel_rfl) (fun _ _ _ h => h) (Or.inl ⟨by rfl, fun W hW => by obtain ⟨q0, q1, q2⟩ := cells3 hW.1; clear hW; go_simp⟩) (by assumption) ?_
  try simp only [Act.put, List.setIfInBounds_toArray, List.set_cons_zero, List.set_cons_succ]
  refine drawT_take (i := 6) (v := .pointer (some ⟨P, 2, none⟩)) (List.getElem?_toArray.trans rfl) (by kernel_rfl) (by kernel_rfl) (by kernel_rfl) (by kernel_rfl) (fun _ _ _ h => h) (Or.inl ⟨by rfl, fun W hW => by obtain ⟨q0, q1, q2⟩ := cells3 hW.1; clear hW; go_simp⟩) (by assumption) ?_
  try simp only [Act.put, List.setIfInBounds_toArray, List.set_cons_zero, List.set_cons_succ]
  refine drawT_take (i := 7) (v := .slice (some ⟨g, 0, none⟩) (kvs.length + 1) gc) (List.getElem?_toArray.trans rfl) (by kernel_rfl) (by kernel_rfl) (by kernel_rfl) (by kernel_rfl) (fun _ _ _ h => h) (Or.inl ⟨by rfl, fun W hW => by obtain ⟨q0, q1, q2⟩ := cells3 hW.1; clear hW; go_simp⟩) (by assumption) ?_
  try simp only [Act.put, List.setIfInBounds_toArray, List.set_cons_zero, List.set_cons_succ]
  refine drawT_take (i := 8) (v := .int .i64 ((kvs.length : Int) + 1)) (List.getElem?_toArray.trans rfl) (by kernel_rfl) (by kernel_rfl) (by kernel_rfl) (by kernel_rfl) (fun _ _ _ h => h) (Or.inl ⟨by rfl, fun W hW => by obtain ⟨q0, q1, q2⟩ := cells3 hW.1; clear hW; go_simp⟩) (by assumption) ?_
  try simp only [Act.put, List.setIfInBounds_toArray, List.set_cons_zero, List.set_cons_succ]
  refine drawT_take (i := 9) (v := .int .i64 kvs.length) (List.getElem?_toArray.trans rfl) (by kernel_rfl) (by kernel_rfl) (by kernel_rfl) (by kernel_rfl) (fun _ _ _ h => h) (Or.inl ⟨by rfl, fun W hW => by obtain ⟨q0, q1, q2⟩ := cells3 hW.1; clear hW; go_simp⟩) (by assumption) ?_
  try simp only [Act.put, List.setIfInBounds_toArray, List.set_cons_zero, List.set_cons_succ]
  refine drawT_take (i := 10) (v := .slice (some ⟨WB, 0, none⟩) words.length wc) (List.getElem?_toArray.trans rfl) (by kernel_rfl) (by kernel_rfl) (by kernel_rfl) (by kernel_rfl) (fun _ _ _ h => h) (Or.inl ⟨by rfl, fun W hW => by obtain ⟨q0, q1, q2⟩ := cells3 hW.1; clear hW; go_simp⟩) (by assumption) ?_
  try simp only [Act.put, List.setIfInBounds_toArray, List.set_cons_zero, List.set_cons_succ]
  refine drawT_one (i := 11) (List.getElem?_toArray.trans rfl) (by kernel_rfl) (by kernel_rfl) (fun K hK => ?_)
  clear hHeld
  rw [if_pos (by rfl)]
  go_simp
  refine (HC.out _ (.inr trivial) (fun j u hj => by rw [Nat.zero_add]; show w2.cell? ⟨WB, j, none⟩ = some u; rw [(rd HW2.out).1 j, List.getElem?_toArray]; exact hj)).mono ?_
  rintro e w3 ⟨v3, rfl, ho3, hne3, hb3⟩
  obtain ⟨wa3, wc3, rfl⟩ := ownsRow_form ho3
  have HB3 := Lib.hid ((show Below w2.heap.size w2 w2.drew from below_dn ⟨1, rfl⟩).trans hb3)
  have HO3 := Lib.hid (show w3.ownsRow w2.heap.size 9 1 (.slice wa3 words.length wc3) words.length (strVals words) from ho3)
  clear ho3 hne3 hb3
  refine hK.out _ _ ⟨heap_below HBX.out HB3.out, HB3.out⟩ (fun hHeld => ?_)
  clear hK K
  try simp only [Act.put, List.setIfInBounds_toArray, List.set_cons_zero, List.set_cons_succ]
  refine drawT_done (by kernel_rfl) ?_
  clear hHeld
  obtain ⟨hset, ⟨ox, hox⟩, hfz, -, -, hshape⟩ := own_set_at (own_keeps HOW.out HB3.out) (kvs.length * 6 + 5) (by rw [HOW.out.1]; omega) (.slice wa3 words.length wc3)
  obtain ⟨sh, hshape⟩ := hshape
  go_wp2_with fail
  refine ⟨rfl, _, results_none rfl _ _ _, rfl, ⟨sec, name, 10, false, kinds, wa3, words.length, wc3⟩, ⟨rfl, rfl, rfl, rfl, rfl⟩, ⟨rfl, ?_⟩, ⟨some ⟨g, 0, none⟩, gc, ?_, ?_⟩, ?_⟩
  · have hne : (Value.slice wa3 words.length wc3).ownBlock ≠ some g := by
      intro q
      have := (World.ownsRow.lt HO3.out g q).1
      omega
    have h1 : (w3.setCell ⟨g, kvs.length * 6 + 5, none⟩ (.slice wa3 words.length wc3)).ownsRow w2.heap.size 9 1 (.slice wa3 words.length wc3) words.length (strVals words) := by
      refine ⟨HO3.out.1, ?_⟩
      rcases HO3.out.2 with hn | ⟨g2, cp, cur, hv, hg2, hgg, rest⟩
      · exact .inl hn
      · refine .inr ⟨g2, cp, cur, hv, hg2, heap_other hgg (a := ⟨g, kvs.length * 6 + 5, none⟩) (by show g2 ≠ g; omega) _, rest⟩
    refine ⟨h1.1, ?_⟩
    rcases h1.2 with hn | ⟨g2, cp, cur, hv, hg2, hgg, rest⟩
    · exact .inl hn
    · exact .inr ⟨g2, cp, cur, hv, by have := HF2.out.size; omega, hgg, rest⟩
  · rw [List.length_append]
    exact heap_other (heap_below HBX.out HB3.out) (a := ⟨g, kvs.length * 6 + 5, none⟩) (by show P ≠ g; omega) _
  · have e1 : (flatL encK (kvs ++ [name].map (plainK sec kinds 10 false))).set (kvs.length * 6 + 5) (.slice wa3 words.length wc3) = flatL encK (kvs ++ [⟨sec, name, 10, false, kinds, wa3, words.length, wc3⟩]) := by
      rw [HFL.out, flatL_append, flatL_one]
      have hlk : (flatL encK kvs).length = kvs.length * 6 := flatL_length (enc := encK) (k := 6) (fun _ => rfl) kvs
      rw [List.set_append_right _ _ (by omega), hlk, show kvs.length * 6 + 5 - kvs.length * 6 = 5 by omega]
      rfl
    have e2 : (kvs ++ [(⟨sec, name, 10, false, kinds, wa3, words.length, wc3⟩ : KeyV)]).length = kvs.length + 1 := by simp
    rw [e1] at hset
    rw [e2]
    exact hset
  · have f3 : FrB P B 28 w w3 := HF2.out.trans (show FrB P B 28 w2 w3 from Fr.of_below HB3.out _)
    refine Fr.setCell f3 (p := ⟨g, kvs.length * 6 + 5, none⟩) (fun hgw => .inr ⟨hBg, ?_⟩) _
    obtain ⟨cs, fz, hh⟩ := (ownsRow_row HOW.out g rfl).2
    by_cases hm : g = P ∨ (B ≤ g ∧ RowOf 28 w g)
    · rcases hm with h | h
      · omega
      · exact h.2
    · exact ⟨cs, fz, by rw [← HF2.out.block g hgw hm]; exact hh⟩
end Go.Proofs.YtdpnahojhmkemaaGreatDoor
