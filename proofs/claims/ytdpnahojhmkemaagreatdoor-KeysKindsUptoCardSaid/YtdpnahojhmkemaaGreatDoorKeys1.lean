/-
  Package keys: a group in memory; some.
-/
import Derived.Test.YtdpnahojhmkemaaGreatDoorRowM
import Derived.Test.YtdpnahojhmkemaaGreatDoorKeysS
import Derived.Test.YtdpnahojhmkemaaGreatDoorCharsA
namespace Go.Proofs.YtdpnahojhmkemaaGreatDoor
open Go Go.RowKit
set_option linter.unusedVariables false
set_option linter.unusedSimpArgs false
set_option maxRecDepth 100000

/-- A key as it lies in memory: its words are a slice. -/
structure KeyV where
  sec : Str
  name : Str
  form : Int
  list : Bool
  kinds : Int
  wa : Option Addr
  wn : Nat
  wc : Nat
def encK (k : KeyV) : List Value := [.string ⟨k.sec.toArray⟩, .string ⟨k.name.toArray⟩, .int .i64 k.form, .bool k.list, .int .i64 k.kinds, .slice k.wa k.wn k.wc]
theorem encK_one (k : KeyV) : ∀ v ∈ encK k, v.oneCell' = true := by intro v hv; simp [encK] at hv; rcases hv with rfl | rfl | rfl | rfl | rfl | rfl <;> rfl
def plainK (sec : Str) (kinds form : Int) (list : Bool) (n : Str) : KeyV := ⟨sec, n, form, list, kinds, none, 0, 0⟩
theorem infoKey : (Tryz.prog.info? 28).map (fun i => (i.zero, i.size, i.bytes)) = some (some (.agg #[.string ⟨#[]⟩, .string ⟨#[]⟩, .int .i64 0, .bool false, .int .i64 0, .slice none 0 0]), 6, 80) := by kernel_rfl
theorem own_built6 (w : World) (a b c d e f : Value) (T : TypeId) : (w.alloc (.cells #[a, b, c, d, e, f] T)).ownsRow w.heap.size T 6 (.slice (some ⟨w.heap.size, 0, none⟩) 1 1) 1 [a, b, c, d, e, f] :=
  ⟨rfl, .inr ⟨w.heap.size, 1, #[a, b, c, d, e, f], rfl, Nat.le_refl _, heap_alloc_new _ _, Nat.le_refl _, by decide, rfl, rfl⟩⟩
theorem ownsRow_row {w : World} {B e k n : Nat} {v : Value} {xs : List Value} (h : w.ownsRow B e k v n xs) : ∀ g, v.ownBlock = some g → B ≤ g ∧ RowOf e w g := by
  intro g hg
  rcases h.2 with ⟨rfl, _⟩ | ⟨g', cap, cur, rfl, hb, hh, _⟩
  · simp [Value.ownBlock] at hg
  · simp [Value.ownBlock] at hg
    subst hg
    exact ⟨hb, cur, (0, 0), hh⟩
/-- A group that is being made: its box P, its keys a row of its own from block B on. -/
structure GrpAt (w : World) (P B : Nat) (sec : Str) (kinds : Int) (kvs : List KeyV) : Prop where
  ex : ∃ ga gc, w.heap[P]? = some (.cells #[.string ⟨sec.toArray⟩, .int .i64 kinds, .slice ga kvs.length gc] 49 (0, 0)) ∧ w.ownsRow B 28 6 (.slice ga kvs.length gc) kvs.length (flatL encK kvs)
theorem GrpAt.below {w w' : World} {P B : Nat} {sec : Str} {kinds : Int} {kvs : List KeyV} (h : GrpAt w P B sec kinds kvs) (hb : Below w.heap.size w w') : GrpAt w' P B sec kinds kvs := by
  obtain ⟨ga, gc, h1, h2⟩ := h.ex
  exact ⟨ga, gc, heap_below h1 hb, own_keeps h2 hb⟩
theorem GrpAt.more {wr w7 w8 : World} {P B : Nat} {sec : Str} {kinds : Int} {kvs : List KeyV} {k : KeyV} {ga ga2 : Option Addr} {gc gc2 : Nat} (hb : Below wr.heap.size wr w7)
    (h1 : wr.heap[P]? = some (.cells #[.string ⟨sec.toArray⟩, .int .i64 kinds, .slice ga kvs.length gc] 49 (0, 0))) (h2 : wr.ownsRow B 28 6 (.slice ga kvs.length gc) kvs.length (flatL encK kvs)) (hPB : P < B)
    (hg : w7.grownBy w8 (Value.slice ga kvs.length gc).ownBlock) (ho : w8.ownsRow B 28 6 (.slice ga2 (kvs.length + 1) gc2) (kvs.length + 1) (flatL encK kvs ++ encK k)) :
    GrpAt (w8.setCell ⟨P, 2, none⟩ (.slice ga2 (kvs.length + 1) gc2)) P B sec kinds (kvs ++ [k]) ∧ FrB P B 28 wr (w8.setCell ⟨P, 2, none⟩ (.slice ga2 (kvs.length + 1) gc2)) := by
  have b7 := heap_below h1 hb
  have o7 := own_keeps h2 hb
  have b8 : w8.heap[P]? = some (.cells #[.string ⟨sec.toArray⟩, .int .i64 kinds, .slice ga kvs.length gc] 49 (0, 0)) := by
    rw [hg.block P (lt_heap b7) (own_not_box o7 b7 (by decide))]; exact b7
  have e : (kvs ++ [k]).length = kvs.length + 1 := by simp
  refine ⟨⟨ga2, gc2, ?_, ?_⟩, ?_⟩
  · have := heap_setCell b8 2 (.slice ga2 (kvs.length + 1) gc2)
    rw [this, e]; rfl
  · rw [e, flatL_append, flatL_one]
    refine ⟨ho.1, ?_⟩
    rcases ho.2 with hn | ⟨g, cp, cur, hv, hg2, hgg, rest⟩
    · exact .inl hn
    · refine .inr ⟨g, cp, cur, hv, hg2, ?_, rest⟩
      have hne : g ≠ P := by omega
      exact heap_other hgg (a := ⟨P, 2, none⟩) hne _
  · have f1 : FrB P B 28 wr w7 := Fr.of_below hb _
    exact (f1.trans ((FrB.refl P B 28 w7).grown hg (ownsRow_row o7))).setCell 2 _

set_option maxHeartbeats 2000000 in
theorem some_any (P B : Nat) (sec : Str) (kinds form : Int) (list : Bool) (kvs : List KeyV) (NB nc : Nat) (names : List Str) (w : World) (hG : GrpAt w P B sec kinds kvs) (hPB : P < B) (hBw : B ≤ w.heap.size)
    (hN : w.heap[NB]? = some (.cells (strVals names).toArray 9 (0, 0))) (hl : names.length ≤ 100) (hk : kvs.length ≤ 100) :
    Calls Tryz.prog 21 #[.pointer (some ⟨P, 0, none⟩), .int .i64 form, .bool list, .slice (some ⟨NB, 0, none⟩) names.length nc] w fun e w' => e = .returned (.tuple #[]) ∧ GrpAt w' P B sec kinds (kvs ++ names.map (plainK sec kinds form list)) ∧ FrB P B 28 w w' := by
  obtain ⟨i0, hi0, hz0, hz1, hz2⟩ := info_parts infoKey
  have HN := Lib.hid hN
  have HG0 := Lib.hid (show GrpAt w P B sec kinds (kvs ++ (names.take 0).map (plainK sec kinds form list)) by simpa using hG)
  have HNP := Lib.hid (show NB ≠ P from by rintro rfl; obtain ⟨ga, gc, h1, _⟩ := hG.ex; rw [hN] at h1; simp at h1)
  clear hN hG
  go_enter Tryz.func21, Tryz.ntmps21
  go_wp2_with fail
  go_loopg [12] (names.length + 1) (fun f i wr => ∃ k : Nat, k ≤ names.length ∧ i = .int .i64 k ∧ names.length - k < f ∧ Hid (GrpAt wr P B sec kinds (kvs ++ (names.take k).map (plainK sec kinds form list))) ∧ Hid (FrB P B 28 w wr))
  case atStart => exact ⟨0, by omega, rfl, by omega, HG0, FrB.refl _ _ _ _⟩
  case round =>
    obtain ⟨k, hk2, rfl, hfu, HGk, Hf⟩ := hrel
    clear HG0
    by_cases hlt : k < names.length
    · obtain ⟨n, hn⟩ : ∃ n, n = names[k] := ⟨_, rfl⟩
      have hb2 := Hf.out.heap HN.out HNP.out (by decide)
      have d0 : wr.cell? ⟨NB, k, none⟩ = some (.string ⟨n.toArray⟩) := by
        rw [(rd hb2).1 k, List.getElem?_toArray, strVals, List.getElem?_map, List.getElem?_eq_getElem hlt, hn]; rfl
      have HSN := Lib.hid (show kvs ++ (names.take (k + 1)).map (plainK sec kinds form list) = (kvs ++ (names.take k).map (plainK sec kinds form list)) ++ [plainK sec kinds form list n] by
        rw [List.take_succ_eq_append_getElem hlt, List.map_append, hn]; simp)
      have hlen : (kvs ++ (names.take k).map (plainK sec kinds form list)).length ≤ 200 := by rw [List.length_append, List.length_map, List.length_take]; omega
      have hsz := Hf.out.size
      generalize kvs ++ (names.take k).map (plainK sec kinds form list) = ks at *
      obtain ⟨ga, gc, hbx, hown⟩ := HGk.out.ex
      have HBX := Lib.hid hbx; have HOW := Lib.hid hown
      have i5 : (k : Int) < (names.length : Int) := by omega
      clear hb2 hn hbx hown
      go_wp2_with fail
      refine wp_region_drawT (S := fun V => V.heap[P]? = some (.cells #[.string ⟨sec.toArray⟩, .int .i64 kinds, .slice ga ks.length gc] 49 (0, 0))) 19 (by kernel_rfl) (by kernel_rfl) HBX.out (fun hHeld => ?_)
      try simp only [Act.put, List.setIfInBounds_toArray, List.set_cons_zero, List.set_cons_succ]
      refine drawT_take (i := 0) (v := .pointer (some ⟨P, 0, none⟩)) (List.getElem?_toArray.trans rfl) (by kernel_rfl) (by kernel_rfl) (by kernel_rfl) (by kernel_rfl) (fun _ _ _ h => h) (Or.inl ⟨by rfl, fun W hW => by obtain ⟨q0, q1, q2⟩ := cells3 hW; clear hW; go_simp⟩) (by assumption) ?_
      try simp only [Act.put, List.setIfInBounds_toArray, List.set_cons_zero, List.set_cons_succ]
      refine drawT_take (i := 1) (v := .pointer (some ⟨P, 0, none⟩)) (List.getElem?_toArray.trans rfl) (by kernel_rfl) (by kernel_rfl) (by kernel_rfl) (by kernel_rfl) (fun _ _ _ h => h) (Or.inl ⟨by rfl, fun W hW => by obtain ⟨q0, q1, q2⟩ := cells3 hW; clear hW; go_simp⟩) (by assumption) ?_
      try simp only [Act.put, List.setIfInBounds_toArray, List.set_cons_zero, List.set_cons_succ]
      refine drawT_take (i := 2) (v := .pointer (some ⟨P, 0, none⟩)) (List.getElem?_toArray.trans rfl) (by kernel_rfl) (by kernel_rfl) (by kernel_rfl) (by kernel_rfl) (fun _ _ _ h => h) (Or.inl ⟨by rfl, fun W hW => by obtain ⟨q0, q1, q2⟩ := cells3 hW; clear hW; go_simp⟩) (by assumption) ?_
      try simp only [Act.put, List.setIfInBounds_toArray, List.set_cons_zero, List.set_cons_succ]
      refine drawT_take (i := 3) (v := .pointer (some ⟨P, 2, none⟩)) (List.getElem?_toArray.trans rfl) (by kernel_rfl) (by kernel_rfl) (by kernel_rfl) (by kernel_rfl) (fun _ _ _ h => h) (Or.inl ⟨by rfl, fun W hW => by obtain ⟨q0, q1, q2⟩ := cells3 hW; clear hW; go_simp⟩) (by assumption) ?_
      try simp only [Act.put, List.setIfInBounds_toArray, List.set_cons_zero, List.set_cons_succ]
      refine drawT_take (i := 4) (v := .slice ga ks.length gc) (List.getElem?_toArray.trans rfl) (by kernel_rfl) (by kernel_rfl) (by kernel_rfl) (by kernel_rfl) (fun _ _ _ h => h) (Or.inl ⟨by rfl, fun W hW => by obtain ⟨q0, q1, q2⟩ := cells3 hW; clear hW; go_simp⟩) (by assumption) ?_
      try simp only [Act.put, List.setIfInBounds_toArray, List.set_cons_zero, List.set_cons_succ]
      refine drawT_take (i := 5) (v := .pointer (some ⟨P, 0, none⟩)) (List.getElem?_toArray.trans rfl) (by kernel_rfl) (by kernel_rfl) (by kernel_rfl) (by kernel_rfl) (fun _ _ _ h => h) (Or.inl ⟨by rfl, fun W hW => by obtain ⟨q0, q1, q2⟩ := cells3 hW; clear hW; go_simp⟩) (by assumption) ?_
      try simp only [Act.put, List.setIfInBounds_toArray, List.set_cons_zero, List.set_cons_succ]
      refine drawT_take (i := 6) (v := .pointer (some ⟨P, 0, none⟩)) (List.getElem?_toArray.trans rfl) (by kernel_rfl) (by kernel_rfl) (by kernel_rfl) (by kernel_rfl) (fun _ _ _ h => h) (Or.inl ⟨by rfl, fun W hW => by obtain ⟨q0, q1, q2⟩ := cells3 hW; clear hW; go_simp⟩) (by assumption) ?_
      try simp only [Act.put, List.setIfInBounds_toArray, List.set_cons_zero, List.set_cons_succ]
      refine drawT_take (i := 7) (v := .pointer (some ⟨P, 0, none⟩)) (List.getElem?_toArray.trans rfl) (by kernel_rfl) (by kernel_rfl) (by kernel_rfl) (by kernel_rfl) (fun _ _ _ h => h) (Or.inl ⟨by rfl, fun W hW => by obtain ⟨q0, q1, q2⟩ := cells3 hW; clear hW; go_simp⟩) (by assumption) ?_
      try simp only [Act.put, List.setIfInBounds_toArray, List.set_cons_zero, List.set_cons_succ]
      refine drawT_take (i := 8) (v := .string ⟨sec.toArray⟩) (List.getElem?_toArray.trans rfl) (by kernel_rfl) (by kernel_rfl) (by kernel_rfl) (by kernel_rfl) (fun _ _ _ h => h) (Or.inl ⟨by rfl, fun W hW => by obtain ⟨q0, q1, q2⟩ := cells3 hW; clear hW; go_simp⟩) (by assumption) ?_
      try simp only [Act.put, List.setIfInBounds_toArray, List.set_cons_zero, List.set_cons_succ]
      refine drawT_take (i := 9) (v := .string ⟨n.toArray⟩) (List.getElem?_toArray.trans rfl) (by kernel_rfl) (by kernel_rfl) (by kernel_rfl) (by kernel_rfl) (fun _ _ _ h => h) (Or.inl ⟨by rfl, fun W hW => by obtain ⟨q0, q1, q2⟩ := cells3 hW; clear hW; go_simp⟩) (by assumption) ?_
      try simp only [Act.put, List.setIfInBounds_toArray, List.set_cons_zero, List.set_cons_succ]
      refine drawT_take (i := 10) (v := .int .i64 form) (List.getElem?_toArray.trans rfl) (by kernel_rfl) (by kernel_rfl) (by kernel_rfl) (by kernel_rfl) (fun _ _ _ h => h) (Or.inl ⟨by rfl, fun W hW => by obtain ⟨q0, q1, q2⟩ := cells3 hW; clear hW; go_simp⟩) (by assumption) ?_
      try simp only [Act.put, List.setIfInBounds_toArray, List.set_cons_zero, List.set_cons_succ]
      refine drawT_take (i := 11) (v := .bool list) (List.getElem?_toArray.trans rfl) (by kernel_rfl) (by kernel_rfl) (by kernel_rfl) (by kernel_rfl) (fun _ _ _ h => h) (Or.inl ⟨by rfl, fun W hW => by obtain ⟨q0, q1, q2⟩ := cells3 hW; clear hW; go_simp⟩) (by assumption) ?_
      try simp only [Act.put, List.setIfInBounds_toArray, List.set_cons_zero, List.set_cons_succ]
      refine drawT_take (i := 12) (v := .pointer (some ⟨P, 0, none⟩)) (List.getElem?_toArray.trans rfl) (by kernel_rfl) (by kernel_rfl) (by kernel_rfl) (by kernel_rfl) (fun _ _ _ h => h) (Or.inl ⟨by rfl, fun W hW => by obtain ⟨q0, q1, q2⟩ := cells3 hW; clear hW; go_simp⟩) (by assumption) ?_
      try simp only [Act.put, List.setIfInBounds_toArray, List.set_cons_zero, List.set_cons_succ]
      refine drawT_take (i := 13) (v := .pointer (some ⟨P, 0, none⟩)) (List.getElem?_toArray.trans rfl) (by kernel_rfl) (by kernel_rfl) (by kernel_rfl) (by kernel_rfl) (fun _ _ _ h => h) (Or.inl ⟨by rfl, fun W hW => by obtain ⟨q0, q1, q2⟩ := cells3 hW; clear hW; go_simp⟩) (by assumption) ?_
      try simp only [Act.put, List.setIfInBounds_toArray, List.set_cons_zero, List.set_cons_succ]
      refine drawT_take (i := 14) (v := .pointer (some ⟨P, 1, none⟩)) (List.getElem?_toArray.trans rfl) (by kernel_rfl) (by kernel_rfl) (by kernel_rfl) (by kernel_rfl) (fun _ _ _ h => h) (Or.inl ⟨by rfl, fun W hW => by obtain ⟨q0, q1, q2⟩ := cells3 hW; clear hW; go_simp⟩) (by assumption) ?_
      try simp only [Act.put, List.setIfInBounds_toArray, List.set_cons_zero, List.set_cons_succ]
      refine drawT_take (i := 15) (v := .int .i64 kinds) (List.getElem?_toArray.trans rfl) (by kernel_rfl) (by kernel_rfl) (by kernel_rfl) (by kernel_rfl) (fun _ _ _ h => h) (Or.inl ⟨by rfl, fun W hW => by obtain ⟨q0, q1, q2⟩ := cells3 hW; clear hW; go_simp⟩) (by assumption) ?_
      try simp only [Act.put, List.setIfInBounds_toArray, List.set_cons_zero, List.set_cons_succ]
      refine drawT_take (i := 16) (v := .agg #[.string ⟨sec.toArray⟩, .string ⟨n.toArray⟩, .int .i64 form, .bool list, .int .i64 kinds, .slice none 0 0]) (List.getElem?_toArray.trans rfl) (by kernel_rfl) (by kernel_rfl) (by kernel_rfl) (by kernel_rfl) (fun _ _ _ h => h) (Or.inl ⟨by rfl, fun W hW => by obtain ⟨q0, q1, q2⟩ := cells3 hW; clear hW; go_simp⟩) (by assumption) ?_
      try simp only [Act.put, List.setIfInBounds_toArray, List.set_cons_zero, List.set_cons_succ]
      refine drawT_one (i := 17) (List.getElem?_toArray.trans rfl) (by kernel_rfl) (by kernel_rfl) (fun K hK => ?_)
      clear hHeld
      rw [if_pos (by rfl)]
      go_simp
      have HBJ := Lib.hid (show Below wr.heap.size wr (wr.drew.alloc (.cells #[.string ⟨sec.toArray⟩, .string ⟨n.toArray⟩, .int .i64 form, .bool list, .int .i64 kinds, .slice none 0 0] 28)) from (show Below wr.heap.size wr wr.drew from below_dn ⟨1, rfl⟩).alloc (Nat.le_refl _) _)
      have HBL := Lib.hid (RowRd.of_own (enc := encK) (k := 6) (l := [plainK sec kinds form list n]) (oa := some ⟨wr.drew.heap.size, 0, none⟩) (cap := 1) (fun _ => rfl) (own_built6 wr.drew (.string ⟨sec.toArray⟩) (.string ⟨n.toArray⟩) (.int .i64 form) (.bool list) (.int .i64 kinds) (.slice none 0 0) 28))
      refine hK.out _ _ (heap_below HBX.out HBJ.out) (fun hHeld => ?_)
      clear hK K
      try simp only [Act.put, List.setIfInBounds_toArray, List.set_cons_zero, List.set_cons_succ]
      refine drawT_one (i := 18) (List.getElem?_toArray.trans rfl) (by kernel_rfl) (by kernel_rfl) (fun K hK => ?_)
      clear hHeld
      refine step_append_rows (by rfl) (.tmp 20) (.tmp 33) 23 (by rfl) B 28 i0 (.agg #[.string ⟨#[]⟩, .string ⟨#[]⟩, .int .i64 0, .bool false, .int .i64 0, .slice none 0 0]) 6 80 Tryz.underlying23 hi0 hz0 hz1 hz2 (by rfl) (by decide) (.slice ga ks.length gc) ks.length (flatL encK ks) (by rfl) (own_keeps HOW.out HBJ.out) (some ⟨wr.heap.size, 0, none⟩) 1 1 (flatL encK [plainK sec kinds form list n]) (by rfl)
          rfl (RowRd.flat (enc := encK) (k := 6) (fun _ => rfl) (by omega) HBL.out) (flatL_oneCell encK_one _) (by unfold maxLen; omega) (by omega) (Nat.le_trans (Nat.le_trans hBw hsz) HBJ.out.size) ?_
      intro v1 w7 hown1 hgrow1
      obtain ⟨ga2, gc2, rfl⟩ := ownsRow_form hown1
      have HM := Lib.hid (GrpAt.more (k := plainK sec kinds form list n) HBJ.out HBX.out HOW.out hPB hgrow1 (by rw [← flatL_one encK]; exact hown1))
      have HBX7 := Lib.hid (show w7.heap[P]? = some (.cells #[.string ⟨sec.toArray⟩, .int .i64 kinds, .slice ga ks.length gc] 49 (0, 0)) from by
        rw [hgrow1.block P (lt_heap (heap_below HBX.out HBJ.out)) (own_not_box (own_keeps HOW.out HBJ.out) (heap_below HBX.out HBJ.out) (by decide))]; exact heap_below HBX.out HBJ.out)
      clear hown1 hgrow1
      refine hK.out _ _ HBX7.out (fun hHeld => ?_)
      clear hK K
      try simp only [Act.put, List.setIfInBounds_toArray, List.set_cons_zero, List.set_cons_succ]
      refine drawT_done (by kernel_rfl) ?_
      clear hHeld
      have hgb := rd HBX7.out
      have s3 := (cells3 HBX7.out).2.2; have s4 := hgb.2.1 2; have s5 := hgb.2.2.1
      clear hgb
      go_wp2_with fail
      go_roundg (gk - 1)
      case measure => omega
      case rel => exact ⟨k + 1, by omega, by go_num, by omega, by rw [HSN.out]; exact HM.out.1, Hf.out.trans HM.out.2⟩
    · have hk3 : k = names.length := by omega
      subst hk3
      rw [List.take_of_length_le (Nat.le_refl _)] at HGk
      go_wp2_with fail
      refine ⟨rfl, _, results_none rfl _ _ _, ?_⟩
      exact ⟨rfl, HGk.out, Hf.out⟩
end Go.Proofs.YtdpnahojhmkemaaGreatDoor
