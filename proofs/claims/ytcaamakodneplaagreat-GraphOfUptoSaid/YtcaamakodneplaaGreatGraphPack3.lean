import Derived.Test.YtcaamakodneplaaGreatGraphPack2
import Derived.Test.YtcaamakodneplaaGreatGraphPack1
import Derived.Deep.LoopGhost
import Derived.Deep.RegionHeld3
import Derived.Lib.SmallJoins
import Derived.IntWalk

/-
  Package graph: the maker's nodes.
-/
namespace Go.Proofs.YtcaamakodneplaaGreat
open Go Go.RowKit
set_option linter.unusedVariables false
set_option linter.unusedSimpArgs false
set_option maxRecDepth 100000

def NodesOut (w : World) (B ML ME : Nat) (l : List LdS) (e : Ending) (w' : World) : Prop :=
  ∃ v tv t', e = .returned v ∧ w'.ownsRow w.heap.size 32 3 v (nodesS l).length (flatL encN (nodesS l)) ∧ Mk w' B ML ME tv [] ∧ TabRd w' tv t' ∧ (∀ s, lookS t' s = lookS (tableS l) s) ∧ Fr (fun k => k = ML) w w'

set_option maxHeartbeats 1000000 in
theorem nodes_any (B ML ME : Nat) (oa : Option Addr) (cap : Nat) (l : List LdS) (w : World) (hM : Mk w B ML ME [] []) (hR : LdsRd w oa l) (hl : l.length < 4194304) (hm : MaxAt w) :
    Calls Tryz.prog 28 #[.pointer (some ⟨B, 0, none⟩), .slice oa l.length cap] w fun e w' => NodesOut w B ML ME l e w' := by
  have HS := Lib.hid (show NdIn w w B ML ME oa l [] [] [] (.slice none 0 0) from ⟨Fr.refl _ _, hM, ⟨rfl, fun i h => by simp at h⟩, hR, hm, by obtain ⟨es, c, h, -⟩ := hM.tab; exact ⟨es, c, h⟩, World.ownsRow_nil _ _ _ _, lt_heap hM.box, hM.tab.lt, hM.set.lt⟩)
  clear hM hR hm
  obtain ⟨i0, hi0, hz0, hz1, hz2⟩ := info_parts infoNode
  go_enter Tryz.func28, Tryz.ntmps28
  go_wp2_with fail
  go_loopg [5, 12] (l.length + 1) (fun f v i wr => ∃ (k : Nat) (tv : List (Str × Value)), k ≤ l.length ∧ i = .int .i64 k ∧ l.length - k < f ∧ Hid (NdIn w wr B ML ME oa l tv ((firstsR (l.take k) []).map adjS) ((firstsR (l.take k) []).map fun x => nodeS (adjS x)) v))
  case atStart => exact ⟨0, [], by omega, rfl, by omega, HS⟩
  case round =>
    obtain ⟨k, tv, hk, rfl, hfu, HSk⟩ := hrel
    clear HS
    obtain ⟨oa', cap', rfl⟩ := ownsRow_form HSk.out.own
    rw [List.length_map] at HSk ⊢
    by_cases hlt : k < l.length
    · obtain ⟨b, o, cs, rfl, hblt, hcc0, hld⟩ := HSk.out.rd0 k hlt
      have hcc : ∀ j v, cs[j]? = some v → wr.cell? ⟨b, o + k * 42 + j, none⟩ = some v := fun j v hj => by
        obtain ⟨es, c, hb⟩ := HSk.out.map0
        exact cell_frm hb HSk.out.fr (hcc0 j v hj)
      clear hcc0 hblt
      obtain ⟨x, hx⟩ : ∃ x, x = l[k] := ⟨_, rfl⟩
      rw [← hx] at hld
      have HN := Lib.hid (show firstsR (l.take (k + 1)) [] = _ from firstsR_step l k hlt)
      rw [← hx] at HN
      have i5 : (k : Int) < (l.length : Int) := by omega
      have HCC := Lib.hid hcc
      have HLD0 := Lib.hid hld
      have HLD := Lib.hid (HSk.out.ld hld)
      have hal : (firstsR (l.take k) []).length < 4194304 := by have := firstsR_len (l.take k) []; simp at this; omega
      generalize hacc : firstsR (l.take k) [] = acc at *
      obtain ⟨ys, fnd, hlk, hsz, hone, hfd⟩ := mlook_all HSk.out.mkr HSk.out.tab x.name true
      simp only [if_true] at hlk
      have hfd2 : fnd = acc.any (fun y => y.name == x.name) := by
        rw [← look_adj]
        rcases hfd with ⟨rfl, h, -⟩ | ⟨z, rfl, h, -⟩ <;> rw [h] <;> rfl
      have HLK := Lib.hid hlk; have HF := Lib.hid hfd2; have HY := Lib.hid (And.intro hsz hone)
      have HZ := Lib.hid (And.intro hld.size hld.one)
      clear hcc hld hx hacc hlk hfd hfd2 hsz hone
      go_wp2_with (first
        | (refine l_load_at rfl 53 _ b (o + k * 42) cs _ rfl rfl HCC.out rfl rfl (by rw [HZ.out.1]; rfl) ?_)
        | (refine l_alloc rfl 53 loadedZero rfl (run_alloc_loaded _) ?_; intro w3 h3 hb3)
        | (refine l_store rfl 53 _ _ wr.heap.size cs loadedZero 53 rfl rfl rfl h3 (by rw [HZ.out.1]; rfl) (by rw [HZ.out.1]; rfl) HZ.out.2 ?_; intro w4 h4 hf4))
      have HS4 := Lib.hid (show ∀ W, Below w4.heap.size w4 W → NdIn w W B ML ME (some ⟨b, o, none⟩) l tv (acc.map adjS) (acc.map fun x => nodeS (adjS x)) (.slice oa' acc.length cap') from by
        intro W hW
        have hb4 : Below wr.heap.size wr w4 := hb3.trans (hf4.below _ hb3.size (fun k hk e => by omega))
        exact HSk.out.below (hb4.trans (hW.mono hb4.size)))
      have HB4 := Lib.hid (show Below wr.heap.size wr w4 from hb3.trans (hf4.below _ hb3.size (fun k hk e => by omega)))
      have HND := Lib.hid (fun W (hW : Below wr.heap.size wr W) => HSk.out.below hW)
      have HLDW := Lib.hid (fun W (hW : Below wr.heap.size wr W) => HLD.out.below hW)
      have hMLX := HSk.out.mkr.tab.lt
      have hBX := lt_heap HSk.out.mkr.box
      have HX := Lib.hid h4
      have HLW := Lib.hid (show ∀ W, Below w4.heap.size w4 W → LdRd W cs x from by
        intro W hW
        have hb4 : Below wr.heap.size wr w4 := hb3.trans (hf4.below _ hb3.size (fun k hk e => by omega))
        exact HLD.out.below (hb4.trans (hW.mono hb4.size)))
      have HQ := Lib.hid (show ∀ W, Below w4.heap.size w4 W → W.cell? ⟨B, 0, none⟩ = some (.map (some ML)) ∧ W.cell? ⟨wr.heap.size, 0, none⟩ = some (.string ⟨x.name.toArray⟩) ∧ (Instr.lookup 66 (.map (some ML)) (.string ⟨x.name.toArray⟩) true).run Tryz.prog W = .ok (.tuple #[.agg ys, .bool fnd]) W from by
        intro W hW
        have hb4 : Below wr.heap.size wr w4 := hb3.trans (hf4.below _ hb3.size (fun k hk e => by omega))
        refine ⟨(rd (HS4.out W hW).mkr.box).1 0, ?_, HLK.out W (hb4.trans (hW.mono hb4.size))⟩
        rw [hW.cell (lt_heap h4), (rd h4).1 0]
        exact HLD.out.name)
      generalize hX : wr.heap.size = X at *
      have hX2 := Lib.hid hX
      clear h3 h4 hb3 hf4 hX HLK HLD HCC
      refine wp_region_held_drew (S := fun W => Below w4.heap.size w4 W) (by kernel_rfl) (below_dn ⟨1, rfl⟩) (fun hHeld => ?_)
      try simp only [Act.put, List.setIfInBounds_toArray, List.set_cons_zero, List.set_cons_succ]
      refine wpAnyH_take (i := 0) (v := .pointer (some ⟨B, 0, none⟩)) (List.getElem?_toArray.trans rfl) (by kernel_rfl) (by kernel_rfl) (by kernel_rfl) (fun _ _ _ h => h) (Or.inl ⟨by rfl, fun W hW => by obtain ⟨q1, q2, q3⟩ := HQ.out W hW; clear hW; go_simp⟩) (by assumption) ?_
      try simp only [Act.put, List.setIfInBounds_toArray, List.set_cons_zero, List.set_cons_succ]
      refine wpAnyH_take (i := 1) (v := .pointer (some ⟨B, 0, none⟩)) (List.getElem?_toArray.trans rfl) (by kernel_rfl) (by kernel_rfl) (by kernel_rfl) (fun _ _ _ h => h) (Or.inl ⟨by rfl, fun W hW => by obtain ⟨q1, q2, q3⟩ := HQ.out W hW; clear hW; go_simp⟩) (by assumption) ?_
      try simp only [Act.put, List.setIfInBounds_toArray, List.set_cons_zero, List.set_cons_succ]
      refine wpAnyH_take (i := 2) (v := .pointer (some ⟨B, 0, none⟩)) (List.getElem?_toArray.trans rfl) (by kernel_rfl) (by kernel_rfl) (by kernel_rfl) (fun _ _ _ h => h) (Or.inl ⟨by rfl, fun W hW => by obtain ⟨q1, q2, q3⟩ := HQ.out W hW; clear hW; go_simp⟩) (by assumption) ?_
      try simp only [Act.put, List.setIfInBounds_toArray, List.set_cons_zero, List.set_cons_succ]
      refine wpAnyH_take (i := 3) (v := .map (some ML)) (List.getElem?_toArray.trans rfl) (by kernel_rfl) (by kernel_rfl) (by kernel_rfl) (fun _ _ _ h => h) (Or.inl ⟨by rfl, fun W hW => by obtain ⟨q1, q2, q3⟩ := HQ.out W hW; clear hW; go_simp⟩) (by assumption) ?_
      try simp only [Act.put, List.setIfInBounds_toArray, List.set_cons_zero, List.set_cons_succ]
      refine wpAnyH_take (i := 4) (v := .pointer (some ⟨X, 0, none⟩)) (List.getElem?_toArray.trans rfl) (by kernel_rfl) (by kernel_rfl) (by kernel_rfl) (fun _ _ _ h => h) (Or.inl ⟨by rfl, fun W hW => by obtain ⟨q1, q2, q3⟩ := HQ.out W hW; clear hW; go_simp⟩) (by assumption) ?_
      try simp only [Act.put, List.setIfInBounds_toArray, List.set_cons_zero, List.set_cons_succ]
      refine wpAnyH_take (i := 5) (v := .string ⟨x.name.toArray⟩) (List.getElem?_toArray.trans rfl) (by kernel_rfl) (by kernel_rfl) (by kernel_rfl) (fun _ _ _ h => h) (Or.inl ⟨by rfl, fun W hW => by obtain ⟨q1, q2, q3⟩ := HQ.out W hW; clear hW; go_simp⟩) (by assumption) ?_
      try simp only [Act.put, List.setIfInBounds_toArray, List.set_cons_zero, List.set_cons_succ]
      refine wpAnyH_take (i := 6) (v := .tuple #[.agg ys, .bool fnd]) (List.getElem?_toArray.trans rfl) (by kernel_rfl) (by kernel_rfl) (by kernel_rfl) (fun _ _ _ h => h) (Or.inl ⟨by rfl, fun W hW => by obtain ⟨q1, q2, q3⟩ := HQ.out W hW; clear hW; go_simp⟩) (by assumption) ?_
      try simp only [Act.put, List.setIfInBounds_toArray, List.set_cons_zero, List.set_cons_succ]
      refine wpAnyH_take (i := 7) (v := .tuple #[.agg ys, .bool fnd]) (List.getElem?_toArray.trans rfl) (by kernel_rfl) (by kernel_rfl) (by kernel_rfl) (fun _ _ _ h => h) (Or.inl ⟨by rfl, fun W hW => by obtain ⟨q1, q2, q3⟩ := HQ.out W hW; clear hW; go_simp⟩) (by assumption) ?_
      try simp only [Act.put, List.setIfInBounds_toArray, List.set_cons_zero, List.set_cons_succ]
      refine wpAnyH_take (i := 8) (v := .agg ys) (List.getElem?_toArray.trans rfl) (by kernel_rfl) (by kernel_rfl) (by kernel_rfl) (fun _ _ _ h => h) (Or.inl ⟨by rfl, fun W hW => by obtain ⟨q1, q2, q3⟩ := HQ.out W hW; clear hW; go_simp⟩) (by assumption) ?_
      try simp only [Act.put, List.setIfInBounds_toArray, List.set_cons_zero, List.set_cons_succ]
      refine wpAnyH_take (i := 9) (v := .bool fnd) (List.getElem?_toArray.trans rfl) (by kernel_rfl) (by kernel_rfl) (by kernel_rfl) (fun _ _ _ h => h) (Or.inl ⟨by rfl, fun W hW => by obtain ⟨q1, q2, q3⟩ := HQ.out W hW; clear hW; go_simp⟩) (by assumption) ?_
      try simp only [Act.put, List.setIfInBounds_toArray, List.set_cons_zero, List.set_cons_succ]
      refine wpAnyH_ready (rs := [10]) (by kernel_rfl) (by simp) (AllReadyH.cons (List.getElem?_toArray.trans rfl) (fun K hK => ?_) AllReadyH.nil)
      rw [if_pos (by rfl)]
      refine oper_alloc_at w4.heap.size rfl 53 loadedZero rfl (run_alloc_loaded _) ?_
      intro w5 h5 hb5 hl5
      have HB5 := Lib.hid (show Below w4.heap.size w4 w5 from (below_dn (B := w4.heap.size) (a := w4) (b := w4.drew) ⟨1, rfl⟩).trans hb5)
      clear hHeld
      refine hK.out _ _ HB5.out (fun hHeld => ?_)
      clear hK K
      try simp only [Act.put, List.setIfInBounds_toArray, List.set_cons_zero, List.set_cons_succ]
      refine wpAnyH_ready (rs := [11]) (by kernel_rfl) (by simp) (AllReadyH.cons (List.getElem?_toArray.trans rfl) (fun K hK => ?_) AllReadyH.nil)
      rw [if_pos (by rfl)]
      refine oper_store_all 53 _ _ w4.heap.size ys loadedZero 53 rfl rfl rfl h5 (by rw [HY.out.1]; rfl) (by rw [HY.out.1]; rfl) HY.out.2 ?_
      intro w6 h6 hf6
      have HB6 := Lib.hid (show Below w4.heap.size w4 w6 from HB5.out.trans (hf6.below _ HB5.out.size (fun k hk e => by omega)))
      clear hHeld
      refine hK.out _ _ HB6.out (fun hHeld => ?_)
      clear hK K
      try simp only [Act.put, List.setIfInBounds_toArray, List.set_cons_zero, List.set_cons_succ]
      refine wpAnyH_take (i := 12) (v := .bool fnd) (List.getElem?_toArray.trans rfl) (by kernel_rfl) (by kernel_rfl) (by kernel_rfl) (fun _ _ _ h => h) (Or.inl ⟨by rfl, fun W hW => by clear hW; go_simp⟩) (by assumption) ?_
      try simp only [Act.put, List.setIfInBounds_toArray, List.set_cons_zero, List.set_cons_succ]
      refine wpAnyH_done (by kernel_rfl) ?_ _
      clear hHeld h5 hb5 hl5 hf6 HB5
      have HB6X := Lib.hid (HB4.out.trans (HB6.out.mono (by have := HB4.out.size; rw [hX2.out] at this; exact this)))
      have HX6 := Lib.hid ((HB6.out.block X (lt_heap HX.out)).trans HX.out)
      have HW6 := Lib.hid (HB6X.out)
      have k0 := (HQ.out w6 HB6.out).2.1
      have hXlt := lt_heap HX6.out
      clear h6 HQ HB4 HX HS4 HLW HB6 HY
      cases fnd with
      | true =>
        have HNN := Lib.hid (show firstsR (l.take (k + 1)) [] = acc by rw [HN.out, ← HF.out]; rfl)
        go_wp2_with fail
        go_roundg (gk - 1)
        case measure => omega
        case rel => exact ⟨k + 1, tv, by omega, by go_num, by omega, by rw [HNN.out]; exact Lib.hid (HND.out _ HB6X.out)⟩
      | false =>
        by_cases hkz : kindS x.name = 0
        · have HNN := Lib.hid (show firstsR (l.take (k + 1)) [] = acc by rw [HN.out, ← HF.out, hkz]; rfl)
          have HM := Lib.hid (may_any ⟨x.name.toArray⟩ w6 (by have := HLD0.out.small.name; show x.name.toArray.size < _; simp; omega) (HND.out _ HB6X.out).max false (by simp [hkz]))
          go_wp2_with fail
          refine HM.out.mono ?_
          rintro e w7 ⟨rfl, hb7⟩
          have HB7X := Lib.hid (HB6X.out.trans (hb7.mono (by have := HB6X.out.size; rw [hX2.out] at this; exact this)))
          have HX7 := Lib.hid ((hb7.block X (lt_heap HX6.out)).trans HX6.out)
          clear hb7 k0 hXlt HM HX6 HB6X HW6
          go_wp2_with fail
          go_roundg (gk - 1)
          case measure => omega
          case rel => exact ⟨k + 1, tv, by omega, by go_num, by omega, by rw [HNN.out]; exact Lib.hid (HND.out _ HB7X.out)⟩
        · have HNN := Lib.hid (show firstsR (l.take (k + 1)) [] = acc ++ [x] by rw [HN.out, ← HF.out, if_neg (by simp [hkz])])
          have HNO := Lib.hid (show ∀ p ∈ tv, p.1 ≠ x.name by
            intro p hp e
            have h1 : p.1 ∈ (acc.map adjS).map (·.name) := by rw [← (HND.out _ HB6X.out).tab0.keys]; exact List.mem_map.2 ⟨p, hp, rfl⟩
            rw [List.map_map] at h1
            obtain ⟨y, hy, e2⟩ := List.mem_map.1 h1
            have := HF.out
            rw [eq_comm, List.any_eq_false] at this
            exact this y hy (by simpa [adjS, e] using e2))
          have HM := Lib.hid (may_any ⟨x.name.toArray⟩ w6 (by have := HLD0.out.small.name; show x.name.toArray.size < _; simp; omega) (HND.out _ HB6X.out).max true (by simp [hkz]))
          go_wp2_with fail
          refine HM.out.mono ?_
          rintro e w7 ⟨rfl, hb7⟩
          have HB7X := Lib.hid (HB6X.out.trans (hb7.mono (by have := HB6X.out.size; rw [hX2.out] at this; exact this)))
          have HX7 := Lib.hid ((hb7.block X (lt_heap HX6.out)).trans HX6.out)
          clear hb7 k0 hXlt HM HX6 HB6X HW6
          have k1 := ((rd HX7.out).1 1).trans HLD0.out.state
          have hXlt := lt_heap HX7.out
          have HSZ0 := Lib.hid HLD0.out.size
          by_cases s1 : x.state < 1
          · have q1 : decide (x.state < 1) = true := by simpa using s1
            have hf1 : w7.frozen? ⟨X, 1, none⟩ = false := (rd HX7.out).2.1 1
            have HX8 := Lib.hid (heap_setCell HX7.out 1 (.int .i64 4))
            have HB8 := Lib.hid (show Below X wr (w7.setCell ⟨X, 1, none⟩ (.int .i64 4)) from HB7X.out.trans ((Fr.setCell (M := fun k => k = X) (Fr.refl _ w7) (fun _ => rfl) _).below _ (by have := HB7X.out.size; rw [hX2.out] at this; exact this) (fun k hk e => by omega)))
            go_wp2_with fail
            generalize w7.setCell ⟨X, 1, none⟩ (.int .i64 4) = w8 at *
            clear HX7 k1 hf1
            have HE8 := Lib.hid (show LdRd w (cs.setIfInBounds 1 (.int .i64 4)) (adjS x) by rw [adj_four (.inl s1)]; exact HLD0.out.setState 4)
            have HSZ := Lib.hid (show ((cs.setIfInBounds 1 (.int .i64 4)).size = 42) from HE8.out.size)
            have HND8 := Lib.hid (HND.out _ HB8.out)
            have HQ9 := Lib.hid (show ∀ V, Fr (fun k => k = ML) w8 V → V.cell? ⟨B, 0, none⟩ = some (.map (some ML)) ∧ V.cell? ⟨X, 0, none⟩ = some (.string ⟨x.name.toArray⟩) ∧ V.heap[X]? = some (.cells (cs.setIfInBounds 1 (.int .i64 4)) 53 (0, 0)) from by
              intro V hV
              have hx := hV.heap HX8.out (by omega)
              refine ⟨(rd (hV.heap HND8.out.mkr.box HND8.out.mkr.ne.2.2)).1 0, ?_, hx⟩
              rw [(rd hx).1 0]
              exact HE8.out.name)
            refine wp_region_held_drew (S := fun V => Fr (fun k => k = ML) w8 V) (by kernel_rfl) (Fr.refl _ _).drew (fun hHeld => ?_)
            try simp only [Act.put, List.setIfInBounds_toArray, List.set_cons_zero, List.set_cons_succ]
            refine wpAnyH_take (i := 0) (v := .pointer (some ⟨B, 0, none⟩)) (List.getElem?_toArray.trans rfl) (by kernel_rfl) (by kernel_rfl) (by kernel_rfl) (fun _ _ _ h => h) (Or.inl ⟨by rfl, fun W hW => by obtain ⟨q1, q2, q3⟩ := HQ9.out W hW; clear hW q3; go_simp⟩) (by assumption) ?_
            try simp only [Act.put, List.setIfInBounds_toArray, List.set_cons_zero, List.set_cons_succ]
            refine wpAnyH_take (i := 1) (v := .pointer (some ⟨B, 0, none⟩)) (List.getElem?_toArray.trans rfl) (by kernel_rfl) (by kernel_rfl) (by kernel_rfl) (fun _ _ _ h => h) (Or.inl ⟨by rfl, fun W hW => by obtain ⟨q1, q2, q3⟩ := HQ9.out W hW; clear hW q3; go_simp⟩) (by assumption) ?_
            try simp only [Act.put, List.setIfInBounds_toArray, List.set_cons_zero, List.set_cons_succ]
            refine wpAnyH_take (i := 2) (v := .pointer (some ⟨B, 0, none⟩)) (List.getElem?_toArray.trans rfl) (by kernel_rfl) (by kernel_rfl) (by kernel_rfl) (fun _ _ _ h => h) (Or.inl ⟨by rfl, fun W hW => by obtain ⟨q1, q2, q3⟩ := HQ9.out W hW; clear hW q3; go_simp⟩) (by assumption) ?_
            try simp only [Act.put, List.setIfInBounds_toArray, List.set_cons_zero, List.set_cons_succ]
            refine wpAnyH_take (i := 3) (v := .map (some ML)) (List.getElem?_toArray.trans rfl) (by kernel_rfl) (by kernel_rfl) (by kernel_rfl) (fun _ _ _ h => h) (Or.inl ⟨by rfl, fun W hW => by obtain ⟨q1, q2, q3⟩ := HQ9.out W hW; clear hW q3; go_simp⟩) (by assumption) ?_
            try simp only [Act.put, List.setIfInBounds_toArray, List.set_cons_zero, List.set_cons_succ]
            refine wpAnyH_take (i := 4) (v := .pointer (some ⟨X, 0, none⟩)) (List.getElem?_toArray.trans rfl) (by kernel_rfl) (by kernel_rfl) (by kernel_rfl) (fun _ _ _ h => h) (Or.inl ⟨by rfl, fun W hW => by obtain ⟨q1, q2, q3⟩ := HQ9.out W hW; clear hW q3; go_simp⟩) (by assumption) ?_
            try simp only [Act.put, List.setIfInBounds_toArray, List.set_cons_zero, List.set_cons_succ]
            refine wpAnyH_take (i := 5) (v := .string ⟨x.name.toArray⟩) (List.getElem?_toArray.trans rfl) (by kernel_rfl) (by kernel_rfl) (by kernel_rfl) (fun _ _ _ h => h) (Or.inl ⟨by rfl, fun W hW => by obtain ⟨q1, q2, q3⟩ := HQ9.out W hW; clear hW q3; go_simp⟩) (by assumption) ?_
            try simp only [Act.put, List.setIfInBounds_toArray, List.set_cons_zero, List.set_cons_succ]
            refine wpAnyH_take (i := 6) (v := .agg (cs.setIfInBounds 1 (.int .i64 4))) (List.getElem?_toArray.trans rfl) (by kernel_rfl) (by kernel_rfl) (by kernel_rfl) (fun _ _ _ h => h) (Or.inl ⟨by rfl, fun V hV => exec_load_all 53 _ X (cs.setIfInBounds 1 (.int .i64 4)) 53 _ rfl rfl (HQ9.out V hV).2.2 rfl rfl (by rw [HSZ.out]; rfl)⟩) (by assumption) ?_
            try simp only [Act.put, List.setIfInBounds_toArray, List.set_cons_zero, List.set_cons_succ]
            obtain ⟨w9, hup, hm9, hf9⟩ := put_new (strKeys Tryz.underlying9) Tryz.underlying66 (HND8.out.mkr.tab.fr (M := fun _ => False) (Fr.refl _ _).drew (fun h => h)) x.name HNO.out (.agg (cs.setIfInBounds 1 (.int .i64 4)))
            have HF9 := Lib.hid (show Fr (fun k => k = ML) w8 w9 from (Fr.refl _ _).drew.trans hf9)
            have HM9 := Lib.hid hm9
            have hup : (Instr.mapUpdate 66 (.map (some ML)) (.string ⟨x.name.toArray⟩) (.agg (cs.setIfInBounds 1 (.int .i64 4)))).run Tryz.prog w8.drew = .ok () w9 := hup
            clear hm9 hf9
            refine wpAnyH_ready (rs := [7]) (by kernel_rfl) (by simp) (AllReadyH.cons (List.getElem?_toArray.trans rfl) (fun K hK => ?_) AllReadyH.nil)
            rw [if_pos (by rfl)]
            go_simp
            clear hHeld hup
            refine hK.out _ _ HF9.out (fun hHeld => ?_)
            clear hK K
            try simp only [Act.put, List.setIfInBounds_toArray, List.set_cons_zero, List.set_cons_succ]
            refine wpAnyH_done (by kernel_rfl) ?_ _
            clear hHeld
            have HND9 := Lib.hid (show NdIn w w9 B ML ME (some ⟨b, o, none⟩) l (tv ++ [(x.name, .agg (cs.setIfInBounds 1 (.int .i64 4)))]) (acc.map adjS ++ [adjS x]) (acc.map fun x => nodeS (adjS x)) (.slice oa' acc.length cap') from HND8.out.put HE8.out HF9.out HM9.out)
            have HX9 := Lib.hid (HF9.out.heap HX8.out (by omega))
            have HK := Lib.hid (fun V (h : Below w9.heap.size w9 V) => kind_any ⟨x.name.toArray⟩ V (by have := HLD0.out.small.name; show x.name.toArray.size < _; simp; omega) (HND9.out.max.below h) (kindS x.name) (by simp))
            obtain ⟨st, hst⟩ : ∃ z, z = (adjS x).state := ⟨_, rfl⟩
            have HST := Lib.hid hst
            have HV := Lib.hid (show (cs.setIfInBounds 1 (.int .i64 4))[0]? = some (.string ⟨x.name.toArray⟩) ∧ (cs.setIfInBounds 1 (.int .i64 4))[1]? = some (.int .i64 st) from ⟨HE8.out.name, by rw [hst]; exact HE8.out.state⟩)
            generalize hkk : kindS x.name = kk at *
            have HKK := Lib.hid hkk
            clear hst hkk HX8 HM9
            go_wp2_with fail
            refine wp_region_held_drew (S := fun V => V.heap[X]? = some (.cells (cs.setIfInBounds 1 (.int .i64 4)) 53 (0, 0))) (by kernel_rfl) HX9.out (fun hHeld => ?_)
            try simp only [Act.put, List.setIfInBounds_toArray, List.set_cons_zero, List.set_cons_succ]
            refine wpAnyH_take (i := 0) (v := .slice oa' acc.length cap') (List.getElem?_toArray.trans rfl) (by kernel_rfl) (by kernel_rfl) (by kernel_rfl) (fun _ _ _ h => h) (Or.inl ⟨by rfl, fun W hW => by have q1 := ((rd hW).1 0).trans HV.out.1; have q2 := ((rd hW).1 1).trans HV.out.2; clear hW; go_simp⟩) (by assumption) ?_
            try simp only [Act.put, List.setIfInBounds_toArray, List.set_cons_zero, List.set_cons_succ]
            refine wpAnyH_take (i := 1) (v := .pointer (some ⟨X, 0, none⟩)) (List.getElem?_toArray.trans rfl) (by kernel_rfl) (by kernel_rfl) (by kernel_rfl) (fun _ _ _ h => h) (Or.inl ⟨by rfl, fun W hW => by have q1 := ((rd hW).1 0).trans HV.out.1; have q2 := ((rd hW).1 1).trans HV.out.2; clear hW; go_simp⟩) (by assumption) ?_
            try simp only [Act.put, List.setIfInBounds_toArray, List.set_cons_zero, List.set_cons_succ]
            refine wpAnyH_take (i := 2) (v := .string ⟨x.name.toArray⟩) (List.getElem?_toArray.trans rfl) (by kernel_rfl) (by kernel_rfl) (by kernel_rfl) (fun _ _ _ h => h) (Or.inl ⟨by rfl, fun W hW => by have q1 := ((rd hW).1 0).trans HV.out.1; have q2 := ((rd hW).1 1).trans HV.out.2; clear hW; go_simp⟩) (by assumption) ?_
            try simp only [Act.put, List.setIfInBounds_toArray, List.set_cons_zero, List.set_cons_succ]
            refine wpAnyH_take (i := 3) (v := .pointer (some ⟨X, 0, none⟩)) (List.getElem?_toArray.trans rfl) (by kernel_rfl) (by kernel_rfl) (by kernel_rfl) (fun _ _ _ h => h) (Or.inl ⟨by rfl, fun W hW => by have q1 := ((rd hW).1 0).trans HV.out.1; have q2 := ((rd hW).1 1).trans HV.out.2; clear hW; go_simp⟩) (by assumption) ?_
            try simp only [Act.put, List.setIfInBounds_toArray, List.set_cons_zero, List.set_cons_succ]
            refine wpAnyH_take (i := 4) (v := .string ⟨x.name.toArray⟩) (List.getElem?_toArray.trans rfl) (by kernel_rfl) (by kernel_rfl) (by kernel_rfl) (fun _ _ _ h => h) (Or.inl ⟨by rfl, fun W hW => by have q1 := ((rd hW).1 0).trans HV.out.1; have q2 := ((rd hW).1 1).trans HV.out.2; clear hW; go_simp⟩) (by assumption) ?_
            try simp only [Act.put, List.setIfInBounds_toArray, List.set_cons_zero, List.set_cons_succ]
            refine wpAnyH_take (i := 6) (v := .pointer (some ⟨X, 1, none⟩)) (List.getElem?_toArray.trans rfl) (by kernel_rfl) (by kernel_rfl) (by kernel_rfl) (fun _ _ _ h => h) (Or.inl ⟨by rfl, fun W hW => by have q1 := ((rd hW).1 0).trans HV.out.1; have q2 := ((rd hW).1 1).trans HV.out.2; clear hW; go_simp⟩) (by assumption) ?_
            try simp only [Act.put, List.setIfInBounds_toArray, List.set_cons_zero, List.set_cons_succ]
            refine wpAnyH_take (i := 7) (v := .int .i64 st) (List.getElem?_toArray.trans rfl) (by kernel_rfl) (by kernel_rfl) (by kernel_rfl) (fun _ _ _ h => h) (Or.inl ⟨by rfl, fun W hW => by have q1 := ((rd hW).1 0).trans HV.out.1; have q2 := ((rd hW).1 1).trans HV.out.2; clear hW; go_simp⟩) (by assumption) ?_
            try simp only [Act.put, List.setIfInBounds_toArray, List.set_cons_zero, List.set_cons_succ]
            refine wpAnyH_ready (rs := [5]) (by kernel_rfl) (by simp) (AllReadyH.cons (List.getElem?_toArray.trans rfl) (fun K hK => ?_) AllReadyH.nil)
            clear hHeld
            go_simp
            refine (HK.out _ (below_dn ⟨1, rfl⟩)).mono ?_
            rintro e w10 ⟨rfl, hb10⟩
            have HB10 := Lib.hid (show Below w9.heap.size w9 w10 from (below_dn (B := w9.heap.size) (a := w9) (b := w9.drew) ⟨1, rfl⟩).trans hb10)
            clear hb10
            have HX10 := Lib.hid ((HB10.out.block X (lt_heap HX9.out)).trans HX9.out)
            refine hK.out _ _ HX10.out (fun hHeld => ?_)
            clear hK K
            try simp only [Act.put, List.setIfInBounds_toArray, List.set_cons_zero, List.set_cons_succ]
            refine wpAnyH_take (i := 8) (v := .agg #[.string ⟨x.name.toArray⟩, .int .i64 kk, .int .i64 st]) (List.getElem?_toArray.trans rfl) (by kernel_rfl) (by kernel_rfl) (by kernel_rfl) (fun _ _ _ h => h) (Or.inl ⟨by rfl, fun W hW => by clear hW; go_simp⟩) (by assumption) ?_
            try simp only [Act.put, List.setIfInBounds_toArray, List.set_cons_zero, List.set_cons_succ]
            refine wpAnyH_ready (rs := [9]) (by kernel_rfl) (by simp) (AllReadyH.cons (List.getElem?_toArray.trans rfl) (fun K hK => ?_) AllReadyH.nil)
            clear hHeld
            go_simp
            have HX11 := Lib.hid (heap_alloc HX10.out (.cells #[.string ⟨x.name.toArray⟩, .int .i64 kk, .int .i64 st] 32))
            refine hK.out _ _ HX11.out (fun hHeld => ?_)
            clear hK K
            try simp only [Act.put, List.setIfInBounds_toArray, List.set_cons_zero, List.set_cons_succ]
            refine wpAnyH_ready (rs := [10]) (by kernel_rfl) (by simp) (AllReadyH.cons (List.getElem?_toArray.trans rfl) (fun K hK => ?_) AllReadyH.nil)
            have HND11 := Lib.hid ((HND9.out.below HB10.out).below ((Below.refl w10.heap.size w10).alloc (Nat.le_refl _) (.cells #[.string ⟨x.name.toArray⟩, .int .i64 kk, .int .i64 st] 32)))
            have hcell : ∀ j u, (encN ⟨x.name, kk, st⟩)[j]? = some u → ∃ b o, (some (⟨w10.heap.size, 0, none⟩ : Addr)) = some ⟨b, o, none⟩ ∧ (w10.alloc (.cells #[.string ⟨x.name.toArray⟩, .int .i64 kk, .int .i64 st] 32)).cell? ⟨b, o + j, none⟩ = some u := fun j u hj => ⟨w10.heap.size, 0, rfl, by
              rw [Nat.zero_add, (rd (heap_alloc_new w10 _)).1 j]
              simpa [encN] using hj⟩
            have HCE := Lib.hid hcell
            have HOW := Lib.hid (show (w10.alloc (.cells #[.string ⟨x.name.toArray⟩, .int .i64 kk, .int .i64 st] 32)).ownsRow w.heap.size 32 3 (.slice oa' acc.length cap') acc.length (flatL encN (acc.map fun x => nodeS (adjS x))) from by have := HND11.out.own; rwa [List.length_map] at this)
            have HSZ11 := Lib.hid (show w.heap.size ≤ (w10.alloc (.cells #[.string ⟨x.name.toArray⟩, .int .i64 kk, .int .i64 st] 32)).heap.size from HND11.out.fr.size)
            clear hcell hHeld
            refine step_append_rows (by rfl) (.tmp 49) (.tmp 58) 26 (by rfl) w.heap.size 32 i0 (.agg #[.string ⟨#[]⟩, .int .i64 0, .int .i64 0]) 3 32 Tryz.underlying26 hi0 hz0 hz1 hz2 (by rfl) (by decide) (.slice oa' acc.length cap') acc.length (flatL encN (acc.map fun x => nodeS (adjS x))) (by rfl) HOW.out (some ⟨w10.heap.size, 0, none⟩) 1 1 (encN ⟨x.name, kk, st⟩) (by rfl) (by rfl) HCE.out (by intro u hu; simp [encN] at hu; rcases hu with rfl | rfl | rfl <;> rfl) (by unfold maxLen; omega) (by omega) HSZ11.out ?_
            intro v12 w12 hown12 hgrow12
            have hX12 : w12.heap[X]? = some (.cells (cs.setIfInBounds 1 (.int .i64 4)) 53 (0, 0)) := by
              rw [hgrow12.block X (lt_heap HX11.out) (own_not_box HOW.out HX11.out (by decide))]; exact HX11.out
            have HND12 := Lib.hid (show NdIn w w12 B ML ME (some ⟨b, o, none⟩) l (tv ++ [(x.name, .agg (cs.setIfInBounds 1 (.int .i64 4)))]) ((acc ++ [x]).map adjS) ((acc ++ [x]).map fun x => nodeS (adjS x)) v12 from by
              rw [List.map_append, List.map_append]
              refine HND11.out.grow (n := nodeS (adjS x)) ?_ hgrow12
              rw [List.length_map]
              have hn : nodeS (adjS x) = ⟨x.name, kk, st⟩ := by show NodeS.mk x.name (kindS x.name) (adjS x).state = _; rw [HKK.out, HST.out]
              rw [hn]
              exact hown12)
            refine hK.out _ _ hX12 (fun hHeld => ?_)
            clear hK K hX12 hown12 hgrow12
            try simp only [Act.put, List.setIfInBounds_toArray, List.set_cons_zero, List.set_cons_succ]
            refine wpAnyH_take (i := 11) (v := v12) (List.getElem?_toArray.trans rfl) (by kernel_rfl) (by kernel_rfl) (by kernel_rfl) (fun _ _ _ h => h) (Or.inl ⟨by rfl, fun W hW => by clear hW; go_simp⟩) (by assumption) ?_
            try simp only [Act.put, List.setIfInBounds_toArray, List.set_cons_zero, List.set_cons_succ]
            refine wpAnyH_done (by kernel_rfl) ?_ _
            clear hHeld
            obtain ⟨oa2, cap2, rfl⟩ := ownsRow_form HND12.out.own
            go_wp2_with fail
            go_roundg (gk - 1)
            case measure => omega
            case rel => exact ⟨k + 1, tv ++ [(x.name, .agg (cs.setIfInBounds 1 (.int .i64 4)))], by omega, by go_num, by omega, by rw [HNN.out]; exact HND12⟩
          · have q1 : decide (x.state < 1) = false := by simpa using s1
            by_cases s2 : 4 < x.state
            · have q2 : decide (x.state > 4) = true := by simpa using s2
              have hf1 : w7.frozen? ⟨X, 1, none⟩ = false := (rd HX7.out).2.1 1
              have HX8 := Lib.hid (heap_setCell HX7.out 1 (.int .i64 4))
              have HB8 := Lib.hid (show Below X wr (w7.setCell ⟨X, 1, none⟩ (.int .i64 4)) from HB7X.out.trans ((Fr.setCell (M := fun k => k = X) (Fr.refl _ w7) (fun _ => rfl) _).below _ (by have := HB7X.out.size; rw [hX2.out] at this; exact this) (fun k hk e => by omega)))
              go_wp2_with fail
              generalize w7.setCell ⟨X, 1, none⟩ (.int .i64 4) = w8 at *
              clear HX7 k1 hf1
              have HE8 := Lib.hid (show LdRd w (cs.setIfInBounds 1 (.int .i64 4)) (adjS x) by rw [adj_four (.inr s2)]; exact HLD0.out.setState 4)
              have HSZ := Lib.hid (show ((cs.setIfInBounds 1 (.int .i64 4)).size = 42) from HE8.out.size)
              have HND8 := Lib.hid (HND.out _ HB8.out)
              have HQ9 := Lib.hid (show ∀ V, Fr (fun k => k = ML) w8 V → V.cell? ⟨B, 0, none⟩ = some (.map (some ML)) ∧ V.cell? ⟨X, 0, none⟩ = some (.string ⟨x.name.toArray⟩) ∧ V.heap[X]? = some (.cells (cs.setIfInBounds 1 (.int .i64 4)) 53 (0, 0)) from by
                intro V hV
                have hx := hV.heap HX8.out (by omega)
                refine ⟨(rd (hV.heap HND8.out.mkr.box HND8.out.mkr.ne.2.2)).1 0, ?_, hx⟩
                rw [(rd hx).1 0]
                exact HE8.out.name)
              refine wp_region_held_drew (S := fun V => Fr (fun k => k = ML) w8 V) (by kernel_rfl) (Fr.refl _ _).drew (fun hHeld => ?_)
              try simp only [Act.put, List.setIfInBounds_toArray, List.set_cons_zero, List.set_cons_succ]
              refine wpAnyH_take (i := 0) (v := .pointer (some ⟨B, 0, none⟩)) (List.getElem?_toArray.trans rfl) (by kernel_rfl) (by kernel_rfl) (by kernel_rfl) (fun _ _ _ h => h) (Or.inl ⟨by rfl, fun W hW => by obtain ⟨q1, q2, q3⟩ := HQ9.out W hW; clear hW q3; go_simp⟩) (by assumption) ?_
              try simp only [Act.put, List.setIfInBounds_toArray, List.set_cons_zero, List.set_cons_succ]
              refine wpAnyH_take (i := 1) (v := .pointer (some ⟨B, 0, none⟩)) (List.getElem?_toArray.trans rfl) (by kernel_rfl) (by kernel_rfl) (by kernel_rfl) (fun _ _ _ h => h) (Or.inl ⟨by rfl, fun W hW => by obtain ⟨q1, q2, q3⟩ := HQ9.out W hW; clear hW q3; go_simp⟩) (by assumption) ?_
              try simp only [Act.put, List.setIfInBounds_toArray, List.set_cons_zero, List.set_cons_succ]
              refine wpAnyH_take (i := 2) (v := .pointer (some ⟨B, 0, none⟩)) (List.getElem?_toArray.trans rfl) (by kernel_rfl) (by kernel_rfl) (by kernel_rfl) (fun _ _ _ h => h) (Or.inl ⟨by rfl, fun W hW => by obtain ⟨q1, q2, q3⟩ := HQ9.out W hW; clear hW q3; go_simp⟩) (by assumption) ?_
              try simp only [Act.put, List.setIfInBounds_toArray, List.set_cons_zero, List.set_cons_succ]
              refine wpAnyH_take (i := 3) (v := .map (some ML)) (List.getElem?_toArray.trans rfl) (by kernel_rfl) (by kernel_rfl) (by kernel_rfl) (fun _ _ _ h => h) (Or.inl ⟨by rfl, fun W hW => by obtain ⟨q1, q2, q3⟩ := HQ9.out W hW; clear hW q3; go_simp⟩) (by assumption) ?_
              try simp only [Act.put, List.setIfInBounds_toArray, List.set_cons_zero, List.set_cons_succ]
              refine wpAnyH_take (i := 4) (v := .pointer (some ⟨X, 0, none⟩)) (List.getElem?_toArray.trans rfl) (by kernel_rfl) (by kernel_rfl) (by kernel_rfl) (fun _ _ _ h => h) (Or.inl ⟨by rfl, fun W hW => by obtain ⟨q1, q2, q3⟩ := HQ9.out W hW; clear hW q3; go_simp⟩) (by assumption) ?_
              try simp only [Act.put, List.setIfInBounds_toArray, List.set_cons_zero, List.set_cons_succ]
              refine wpAnyH_take (i := 5) (v := .string ⟨x.name.toArray⟩) (List.getElem?_toArray.trans rfl) (by kernel_rfl) (by kernel_rfl) (by kernel_rfl) (fun _ _ _ h => h) (Or.inl ⟨by rfl, fun W hW => by obtain ⟨q1, q2, q3⟩ := HQ9.out W hW; clear hW q3; go_simp⟩) (by assumption) ?_
              try simp only [Act.put, List.setIfInBounds_toArray, List.set_cons_zero, List.set_cons_succ]
              refine wpAnyH_take (i := 6) (v := .agg (cs.setIfInBounds 1 (.int .i64 4))) (List.getElem?_toArray.trans rfl) (by kernel_rfl) (by kernel_rfl) (by kernel_rfl) (fun _ _ _ h => h) (Or.inl ⟨by rfl, fun V hV => exec_load_all 53 _ X (cs.setIfInBounds 1 (.int .i64 4)) 53 _ rfl rfl (HQ9.out V hV).2.2 rfl rfl (by rw [HSZ.out]; rfl)⟩) (by assumption) ?_
              try simp only [Act.put, List.setIfInBounds_toArray, List.set_cons_zero, List.set_cons_succ]
              obtain ⟨w9, hup, hm9, hf9⟩ := put_new (strKeys Tryz.underlying9) Tryz.underlying66 (HND8.out.mkr.tab.fr (M := fun _ => False) (Fr.refl _ _).drew (fun h => h)) x.name HNO.out (.agg (cs.setIfInBounds 1 (.int .i64 4)))
              have HF9 := Lib.hid (show Fr (fun k => k = ML) w8 w9 from (Fr.refl _ _).drew.trans hf9)
              have HM9 := Lib.hid hm9
              have hup : (Instr.mapUpdate 66 (.map (some ML)) (.string ⟨x.name.toArray⟩) (.agg (cs.setIfInBounds 1 (.int .i64 4)))).run Tryz.prog w8.drew = .ok () w9 := hup
              clear hm9 hf9
              refine wpAnyH_ready (rs := [7]) (by kernel_rfl) (by simp) (AllReadyH.cons (List.getElem?_toArray.trans rfl) (fun K hK => ?_) AllReadyH.nil)
              rw [if_pos (by rfl)]
              go_simp
              clear hHeld hup
              refine hK.out _ _ HF9.out (fun hHeld => ?_)
              clear hK K
              try simp only [Act.put, List.setIfInBounds_toArray, List.set_cons_zero, List.set_cons_succ]
              refine wpAnyH_done (by kernel_rfl) ?_ _
              clear hHeld
              have HND9 := Lib.hid (show NdIn w w9 B ML ME (some ⟨b, o, none⟩) l (tv ++ [(x.name, .agg (cs.setIfInBounds 1 (.int .i64 4)))]) (acc.map adjS ++ [adjS x]) (acc.map fun x => nodeS (adjS x)) (.slice oa' acc.length cap') from HND8.out.put HE8.out HF9.out HM9.out)
              have HX9 := Lib.hid (HF9.out.heap HX8.out (by omega))
              have HK := Lib.hid (fun V (h : Below w9.heap.size w9 V) => kind_any ⟨x.name.toArray⟩ V (by have := HLD0.out.small.name; show x.name.toArray.size < _; simp; omega) (HND9.out.max.below h) (kindS x.name) (by simp))
              obtain ⟨st, hst⟩ : ∃ z, z = (adjS x).state := ⟨_, rfl⟩
              have HST := Lib.hid hst
              have HV := Lib.hid (show (cs.setIfInBounds 1 (.int .i64 4))[0]? = some (.string ⟨x.name.toArray⟩) ∧ (cs.setIfInBounds 1 (.int .i64 4))[1]? = some (.int .i64 st) from ⟨HE8.out.name, by rw [hst]; exact HE8.out.state⟩)
              generalize hkk : kindS x.name = kk at *
              have HKK := Lib.hid hkk
              clear hst hkk HX8 HM9
              go_wp2_with fail
              refine wp_region_held_drew (S := fun V => V.heap[X]? = some (.cells (cs.setIfInBounds 1 (.int .i64 4)) 53 (0, 0))) (by kernel_rfl) HX9.out (fun hHeld => ?_)
              try simp only [Act.put, List.setIfInBounds_toArray, List.set_cons_zero, List.set_cons_succ]
              refine wpAnyH_take (i := 0) (v := .slice oa' acc.length cap') (List.getElem?_toArray.trans rfl) (by kernel_rfl) (by kernel_rfl) (by kernel_rfl) (fun _ _ _ h => h) (Or.inl ⟨by rfl, fun W hW => by have q1 := ((rd hW).1 0).trans HV.out.1; have q2 := ((rd hW).1 1).trans HV.out.2; clear hW; go_simp⟩) (by assumption) ?_
              try simp only [Act.put, List.setIfInBounds_toArray, List.set_cons_zero, List.set_cons_succ]
              refine wpAnyH_take (i := 1) (v := .pointer (some ⟨X, 0, none⟩)) (List.getElem?_toArray.trans rfl) (by kernel_rfl) (by kernel_rfl) (by kernel_rfl) (fun _ _ _ h => h) (Or.inl ⟨by rfl, fun W hW => by have q1 := ((rd hW).1 0).trans HV.out.1; have q2 := ((rd hW).1 1).trans HV.out.2; clear hW; go_simp⟩) (by assumption) ?_
              try simp only [Act.put, List.setIfInBounds_toArray, List.set_cons_zero, List.set_cons_succ]
              refine wpAnyH_take (i := 2) (v := .string ⟨x.name.toArray⟩) (List.getElem?_toArray.trans rfl) (by kernel_rfl) (by kernel_rfl) (by kernel_rfl) (fun _ _ _ h => h) (Or.inl ⟨by rfl, fun W hW => by have q1 := ((rd hW).1 0).trans HV.out.1; have q2 := ((rd hW).1 1).trans HV.out.2; clear hW; go_simp⟩) (by assumption) ?_
              try simp only [Act.put, List.setIfInBounds_toArray, List.set_cons_zero, List.set_cons_succ]
              refine wpAnyH_take (i := 3) (v := .pointer (some ⟨X, 0, none⟩)) (List.getElem?_toArray.trans rfl) (by kernel_rfl) (by kernel_rfl) (by kernel_rfl) (fun _ _ _ h => h) (Or.inl ⟨by rfl, fun W hW => by have q1 := ((rd hW).1 0).trans HV.out.1; have q2 := ((rd hW).1 1).trans HV.out.2; clear hW; go_simp⟩) (by assumption) ?_
              try simp only [Act.put, List.setIfInBounds_toArray, List.set_cons_zero, List.set_cons_succ]
              refine wpAnyH_take (i := 4) (v := .string ⟨x.name.toArray⟩) (List.getElem?_toArray.trans rfl) (by kernel_rfl) (by kernel_rfl) (by kernel_rfl) (fun _ _ _ h => h) (Or.inl ⟨by rfl, fun W hW => by have q1 := ((rd hW).1 0).trans HV.out.1; have q2 := ((rd hW).1 1).trans HV.out.2; clear hW; go_simp⟩) (by assumption) ?_
              try simp only [Act.put, List.setIfInBounds_toArray, List.set_cons_zero, List.set_cons_succ]
              refine wpAnyH_take (i := 6) (v := .pointer (some ⟨X, 1, none⟩)) (List.getElem?_toArray.trans rfl) (by kernel_rfl) (by kernel_rfl) (by kernel_rfl) (fun _ _ _ h => h) (Or.inl ⟨by rfl, fun W hW => by have q1 := ((rd hW).1 0).trans HV.out.1; have q2 := ((rd hW).1 1).trans HV.out.2; clear hW; go_simp⟩) (by assumption) ?_
              try simp only [Act.put, List.setIfInBounds_toArray, List.set_cons_zero, List.set_cons_succ]
              refine wpAnyH_take (i := 7) (v := .int .i64 st) (List.getElem?_toArray.trans rfl) (by kernel_rfl) (by kernel_rfl) (by kernel_rfl) (fun _ _ _ h => h) (Or.inl ⟨by rfl, fun W hW => by have q1 := ((rd hW).1 0).trans HV.out.1; have q2 := ((rd hW).1 1).trans HV.out.2; clear hW; go_simp⟩) (by assumption) ?_
              try simp only [Act.put, List.setIfInBounds_toArray, List.set_cons_zero, List.set_cons_succ]
              refine wpAnyH_ready (rs := [5]) (by kernel_rfl) (by simp) (AllReadyH.cons (List.getElem?_toArray.trans rfl) (fun K hK => ?_) AllReadyH.nil)
              clear hHeld
              go_simp
              refine (HK.out _ (below_dn ⟨1, rfl⟩)).mono ?_
              rintro e w10 ⟨rfl, hb10⟩
              have HB10 := Lib.hid (show Below w9.heap.size w9 w10 from (below_dn (B := w9.heap.size) (a := w9) (b := w9.drew) ⟨1, rfl⟩).trans hb10)
              clear hb10
              have HX10 := Lib.hid ((HB10.out.block X (lt_heap HX9.out)).trans HX9.out)
              refine hK.out _ _ HX10.out (fun hHeld => ?_)
              clear hK K
              try simp only [Act.put, List.setIfInBounds_toArray, List.set_cons_zero, List.set_cons_succ]
              refine wpAnyH_take (i := 8) (v := .agg #[.string ⟨x.name.toArray⟩, .int .i64 kk, .int .i64 st]) (List.getElem?_toArray.trans rfl) (by kernel_rfl) (by kernel_rfl) (by kernel_rfl) (fun _ _ _ h => h) (Or.inl ⟨by rfl, fun W hW => by clear hW; go_simp⟩) (by assumption) ?_
              try simp only [Act.put, List.setIfInBounds_toArray, List.set_cons_zero, List.set_cons_succ]
              refine wpAnyH_ready (rs := [9]) (by kernel_rfl) (by simp) (AllReadyH.cons (List.getElem?_toArray.trans rfl) (fun K hK => ?_) AllReadyH.nil)
              clear hHeld
              go_simp
              have HX11 := Lib.hid (heap_alloc HX10.out (.cells #[.string ⟨x.name.toArray⟩, .int .i64 kk, .int .i64 st] 32))
              refine hK.out _ _ HX11.out (fun hHeld => ?_)
              clear hK K
              try simp only [Act.put, List.setIfInBounds_toArray, List.set_cons_zero, List.set_cons_succ]
              refine wpAnyH_ready (rs := [10]) (by kernel_rfl) (by simp) (AllReadyH.cons (List.getElem?_toArray.trans rfl) (fun K hK => ?_) AllReadyH.nil)
              have HND11 := Lib.hid ((HND9.out.below HB10.out).below ((Below.refl w10.heap.size w10).alloc (Nat.le_refl _) (.cells #[.string ⟨x.name.toArray⟩, .int .i64 kk, .int .i64 st] 32)))
              have hcell : ∀ j u, (encN ⟨x.name, kk, st⟩)[j]? = some u → ∃ b o, (some (⟨w10.heap.size, 0, none⟩ : Addr)) = some ⟨b, o, none⟩ ∧ (w10.alloc (.cells #[.string ⟨x.name.toArray⟩, .int .i64 kk, .int .i64 st] 32)).cell? ⟨b, o + j, none⟩ = some u := fun j u hj => ⟨w10.heap.size, 0, rfl, by
                rw [Nat.zero_add, (rd (heap_alloc_new w10 _)).1 j]
                simpa [encN] using hj⟩
              have HCE := Lib.hid hcell
              have HOW := Lib.hid (show (w10.alloc (.cells #[.string ⟨x.name.toArray⟩, .int .i64 kk, .int .i64 st] 32)).ownsRow w.heap.size 32 3 (.slice oa' acc.length cap') acc.length (flatL encN (acc.map fun x => nodeS (adjS x))) from by have := HND11.out.own; rwa [List.length_map] at this)
              have HSZ11 := Lib.hid (show w.heap.size ≤ (w10.alloc (.cells #[.string ⟨x.name.toArray⟩, .int .i64 kk, .int .i64 st] 32)).heap.size from HND11.out.fr.size)
              clear hcell hHeld
              refine step_append_rows (by rfl) (.tmp 49) (.tmp 58) 26 (by rfl) w.heap.size 32 i0 (.agg #[.string ⟨#[]⟩, .int .i64 0, .int .i64 0]) 3 32 Tryz.underlying26 hi0 hz0 hz1 hz2 (by rfl) (by decide) (.slice oa' acc.length cap') acc.length (flatL encN (acc.map fun x => nodeS (adjS x))) (by rfl) HOW.out (some ⟨w10.heap.size, 0, none⟩) 1 1 (encN ⟨x.name, kk, st⟩) (by rfl) (by rfl) HCE.out (by intro u hu; simp [encN] at hu; rcases hu with rfl | rfl | rfl <;> rfl) (by unfold maxLen; omega) (by omega) HSZ11.out ?_
              intro v12 w12 hown12 hgrow12
              have hX12 : w12.heap[X]? = some (.cells (cs.setIfInBounds 1 (.int .i64 4)) 53 (0, 0)) := by
                rw [hgrow12.block X (lt_heap HX11.out) (own_not_box HOW.out HX11.out (by decide))]; exact HX11.out
              have HND12 := Lib.hid (show NdIn w w12 B ML ME (some ⟨b, o, none⟩) l (tv ++ [(x.name, .agg (cs.setIfInBounds 1 (.int .i64 4)))]) ((acc ++ [x]).map adjS) ((acc ++ [x]).map fun x => nodeS (adjS x)) v12 from by
                rw [List.map_append, List.map_append]
                refine HND11.out.grow (n := nodeS (adjS x)) ?_ hgrow12
                rw [List.length_map]
                have hn : nodeS (adjS x) = ⟨x.name, kk, st⟩ := by show NodeS.mk x.name (kindS x.name) (adjS x).state = _; rw [HKK.out, HST.out]
                rw [hn]
                exact hown12)
              refine hK.out _ _ hX12 (fun hHeld => ?_)
              clear hK K hX12 hown12 hgrow12
              try simp only [Act.put, List.setIfInBounds_toArray, List.set_cons_zero, List.set_cons_succ]
              refine wpAnyH_take (i := 11) (v := v12) (List.getElem?_toArray.trans rfl) (by kernel_rfl) (by kernel_rfl) (by kernel_rfl) (fun _ _ _ h => h) (Or.inl ⟨by rfl, fun W hW => by clear hW; go_simp⟩) (by assumption) ?_
              try simp only [Act.put, List.setIfInBounds_toArray, List.set_cons_zero, List.set_cons_succ]
              refine wpAnyH_done (by kernel_rfl) ?_ _
              clear hHeld
              obtain ⟨oa2, cap2, rfl⟩ := ownsRow_form HND12.out.own
              go_wp2_with fail
              go_roundg (gk - 1)
              case measure => omega
              case rel => exact ⟨k + 1, tv ++ [(x.name, .agg (cs.setIfInBounds 1 (.int .i64 4)))], by omega, by go_num, by omega, by rw [HNN.out]; exact HND12⟩
            · have q2 : decide (x.state > 4) = false := by simpa using s2
              have HX8 := HX7
              have HB8 := HB7X
              have HE8 := Lib.hid (show LdRd w cs (adjS x) by rw [adj_same (by omega)]; exact HLD0.out)
              go_wp2_with fail
              clear HX7 k1
              have HSZ := Lib.hid (show ((cs).size = 42) from HE8.out.size)
              have HND8 := Lib.hid (HND.out _ HB8.out)
              have HQ9 := Lib.hid (show ∀ V, Fr (fun k => k = ML) w7 V → V.cell? ⟨B, 0, none⟩ = some (.map (some ML)) ∧ V.cell? ⟨X, 0, none⟩ = some (.string ⟨x.name.toArray⟩) ∧ V.heap[X]? = some (.cells (cs) 53 (0, 0)) from by
                intro V hV
                have hx := hV.heap HX8.out (by omega)
                refine ⟨(rd (hV.heap HND8.out.mkr.box HND8.out.mkr.ne.2.2)).1 0, ?_, hx⟩
                rw [(rd hx).1 0]
                exact HE8.out.name)
              refine wp_region_held_drew (S := fun V => Fr (fun k => k = ML) w7 V) (by kernel_rfl) (Fr.refl _ _).drew (fun hHeld => ?_)
              try simp only [Act.put, List.setIfInBounds_toArray, List.set_cons_zero, List.set_cons_succ]
              refine wpAnyH_take (i := 0) (v := .pointer (some ⟨B, 0, none⟩)) (List.getElem?_toArray.trans rfl) (by kernel_rfl) (by kernel_rfl) (by kernel_rfl) (fun _ _ _ h => h) (Or.inl ⟨by rfl, fun W hW => by obtain ⟨q1, q2, q3⟩ := HQ9.out W hW; clear hW q3; go_simp⟩) (by assumption) ?_
              try simp only [Act.put, List.setIfInBounds_toArray, List.set_cons_zero, List.set_cons_succ]
              refine wpAnyH_take (i := 1) (v := .pointer (some ⟨B, 0, none⟩)) (List.getElem?_toArray.trans rfl) (by kernel_rfl) (by kernel_rfl) (by kernel_rfl) (fun _ _ _ h => h) (Or.inl ⟨by rfl, fun W hW => by obtain ⟨q1, q2, q3⟩ := HQ9.out W hW; clear hW q3; go_simp⟩) (by assumption) ?_
              try simp only [Act.put, List.setIfInBounds_toArray, List.set_cons_zero, List.set_cons_succ]
              refine wpAnyH_take (i := 2) (v := .pointer (some ⟨B, 0, none⟩)) (List.getElem?_toArray.trans rfl) (by kernel_rfl) (by kernel_rfl) (by kernel_rfl) (fun _ _ _ h => h) (Or.inl ⟨by rfl, fun W hW => by obtain ⟨q1, q2, q3⟩ := HQ9.out W hW; clear hW q3; go_simp⟩) (by assumption) ?_
              try simp only [Act.put, List.setIfInBounds_toArray, List.set_cons_zero, List.set_cons_succ]
              refine wpAnyH_take (i := 3) (v := .map (some ML)) (List.getElem?_toArray.trans rfl) (by kernel_rfl) (by kernel_rfl) (by kernel_rfl) (fun _ _ _ h => h) (Or.inl ⟨by rfl, fun W hW => by obtain ⟨q1, q2, q3⟩ := HQ9.out W hW; clear hW q3; go_simp⟩) (by assumption) ?_
              try simp only [Act.put, List.setIfInBounds_toArray, List.set_cons_zero, List.set_cons_succ]
              refine wpAnyH_take (i := 4) (v := .pointer (some ⟨X, 0, none⟩)) (List.getElem?_toArray.trans rfl) (by kernel_rfl) (by kernel_rfl) (by kernel_rfl) (fun _ _ _ h => h) (Or.inl ⟨by rfl, fun W hW => by obtain ⟨q1, q2, q3⟩ := HQ9.out W hW; clear hW q3; go_simp⟩) (by assumption) ?_
              try simp only [Act.put, List.setIfInBounds_toArray, List.set_cons_zero, List.set_cons_succ]
              refine wpAnyH_take (i := 5) (v := .string ⟨x.name.toArray⟩) (List.getElem?_toArray.trans rfl) (by kernel_rfl) (by kernel_rfl) (by kernel_rfl) (fun _ _ _ h => h) (Or.inl ⟨by rfl, fun W hW => by obtain ⟨q1, q2, q3⟩ := HQ9.out W hW; clear hW q3; go_simp⟩) (by assumption) ?_
              try simp only [Act.put, List.setIfInBounds_toArray, List.set_cons_zero, List.set_cons_succ]
              refine wpAnyH_take (i := 6) (v := .agg (cs)) (List.getElem?_toArray.trans rfl) (by kernel_rfl) (by kernel_rfl) (by kernel_rfl) (fun _ _ _ h => h) (Or.inl ⟨by rfl, fun V hV => exec_load_all 53 _ X (cs) 53 _ rfl rfl (HQ9.out V hV).2.2 rfl rfl (by rw [HSZ.out]; rfl)⟩) (by assumption) ?_
              try simp only [Act.put, List.setIfInBounds_toArray, List.set_cons_zero, List.set_cons_succ]
              obtain ⟨w9, hup, hm9, hf9⟩ := put_new (strKeys Tryz.underlying9) Tryz.underlying66 (HND8.out.mkr.tab.fr (M := fun _ => False) (Fr.refl _ _).drew (fun h => h)) x.name HNO.out (.agg (cs))
              have HF9 := Lib.hid (show Fr (fun k => k = ML) w7 w9 from (Fr.refl _ _).drew.trans hf9)
              have HM9 := Lib.hid hm9
              have hup : (Instr.mapUpdate 66 (.map (some ML)) (.string ⟨x.name.toArray⟩) (.agg (cs))).run Tryz.prog w7.drew = .ok () w9 := hup
              clear hm9 hf9
              refine wpAnyH_ready (rs := [7]) (by kernel_rfl) (by simp) (AllReadyH.cons (List.getElem?_toArray.trans rfl) (fun K hK => ?_) AllReadyH.nil)
              rw [if_pos (by rfl)]
              go_simp
              clear hHeld hup
              refine hK.out _ _ HF9.out (fun hHeld => ?_)
              clear hK K
              try simp only [Act.put, List.setIfInBounds_toArray, List.set_cons_zero, List.set_cons_succ]
              refine wpAnyH_done (by kernel_rfl) ?_ _
              clear hHeld
              have HND9 := Lib.hid (show NdIn w w9 B ML ME (some ⟨b, o, none⟩) l (tv ++ [(x.name, .agg (cs))]) (acc.map adjS ++ [adjS x]) (acc.map fun x => nodeS (adjS x)) (.slice oa' acc.length cap') from HND8.out.put HE8.out HF9.out HM9.out)
              have HX9 := Lib.hid (HF9.out.heap HX8.out (by omega))
              have HK := Lib.hid (fun V (h : Below w9.heap.size w9 V) => kind_any ⟨x.name.toArray⟩ V (by have := HLD0.out.small.name; show x.name.toArray.size < _; simp; omega) (HND9.out.max.below h) (kindS x.name) (by simp))
              obtain ⟨st, hst⟩ : ∃ z, z = (adjS x).state := ⟨_, rfl⟩
              have HST := Lib.hid hst
              have HV := Lib.hid (show (cs)[0]? = some (.string ⟨x.name.toArray⟩) ∧ (cs)[1]? = some (.int .i64 st) from ⟨HE8.out.name, by rw [hst]; exact HE8.out.state⟩)
              generalize hkk : kindS x.name = kk at *
              have HKK := Lib.hid hkk
              clear hst hkk HX8 HM9
              go_wp2_with fail
              refine wp_region_held_drew (S := fun V => V.heap[X]? = some (.cells (cs) 53 (0, 0))) (by kernel_rfl) HX9.out (fun hHeld => ?_)
              try simp only [Act.put, List.setIfInBounds_toArray, List.set_cons_zero, List.set_cons_succ]
              refine wpAnyH_take (i := 0) (v := .slice oa' acc.length cap') (List.getElem?_toArray.trans rfl) (by kernel_rfl) (by kernel_rfl) (by kernel_rfl) (fun _ _ _ h => h) (Or.inl ⟨by rfl, fun W hW => by have q1 := ((rd hW).1 0).trans HV.out.1; have q2 := ((rd hW).1 1).trans HV.out.2; clear hW; go_simp⟩) (by assumption) ?_
              try simp only [Act.put, List.setIfInBounds_toArray, List.set_cons_zero, List.set_cons_succ]
              refine wpAnyH_take (i := 1) (v := .pointer (some ⟨X, 0, none⟩)) (List.getElem?_toArray.trans rfl) (by kernel_rfl) (by kernel_rfl) (by kernel_rfl) (fun _ _ _ h => h) (Or.inl ⟨by rfl, fun W hW => by have q1 := ((rd hW).1 0).trans HV.out.1; have q2 := ((rd hW).1 1).trans HV.out.2; clear hW; go_simp⟩) (by assumption) ?_
              try simp only [Act.put, List.setIfInBounds_toArray, List.set_cons_zero, List.set_cons_succ]
              refine wpAnyH_take (i := 2) (v := .string ⟨x.name.toArray⟩) (List.getElem?_toArray.trans rfl) (by kernel_rfl) (by kernel_rfl) (by kernel_rfl) (fun _ _ _ h => h) (Or.inl ⟨by rfl, fun W hW => by have q1 := ((rd hW).1 0).trans HV.out.1; have q2 := ((rd hW).1 1).trans HV.out.2; clear hW; go_simp⟩) (by assumption) ?_
              try simp only [Act.put, List.setIfInBounds_toArray, List.set_cons_zero, List.set_cons_succ]
              refine wpAnyH_take (i := 3) (v := .pointer (some ⟨X, 0, none⟩)) (List.getElem?_toArray.trans rfl) (by kernel_rfl) (by kernel_rfl) (by kernel_rfl) (fun _ _ _ h => h) (Or.inl ⟨by rfl, fun W hW => by have q1 := ((rd hW).1 0).trans HV.out.1; have q2 := ((rd hW).1 1).trans HV.out.2; clear hW; go_simp⟩) (by assumption) ?_
              try simp only [Act.put, List.setIfInBounds_toArray, List.set_cons_zero, List.set_cons_succ]
              refine wpAnyH_take (i := 4) (v := .string ⟨x.name.toArray⟩) (List.getElem?_toArray.trans rfl) (by kernel_rfl) (by kernel_rfl) (by kernel_rfl) (fun _ _ _ h => h) (Or.inl ⟨by rfl, fun W hW => by have q1 := ((rd hW).1 0).trans HV.out.1; have q2 := ((rd hW).1 1).trans HV.out.2; clear hW; go_simp⟩) (by assumption) ?_
              try simp only [Act.put, List.setIfInBounds_toArray, List.set_cons_zero, List.set_cons_succ]
              refine wpAnyH_take (i := 6) (v := .pointer (some ⟨X, 1, none⟩)) (List.getElem?_toArray.trans rfl) (by kernel_rfl) (by kernel_rfl) (by kernel_rfl) (fun _ _ _ h => h) (Or.inl ⟨by rfl, fun W hW => by have q1 := ((rd hW).1 0).trans HV.out.1; have q2 := ((rd hW).1 1).trans HV.out.2; clear hW; go_simp⟩) (by assumption) ?_
              try simp only [Act.put, List.setIfInBounds_toArray, List.set_cons_zero, List.set_cons_succ]
              refine wpAnyH_take (i := 7) (v := .int .i64 st) (List.getElem?_toArray.trans rfl) (by kernel_rfl) (by kernel_rfl) (by kernel_rfl) (fun _ _ _ h => h) (Or.inl ⟨by rfl, fun W hW => by have q1 := ((rd hW).1 0).trans HV.out.1; have q2 := ((rd hW).1 1).trans HV.out.2; clear hW; go_simp⟩) (by assumption) ?_
              try simp only [Act.put, List.setIfInBounds_toArray, List.set_cons_zero, List.set_cons_succ]
              refine wpAnyH_ready (rs := [5]) (by kernel_rfl) (by simp) (AllReadyH.cons (List.getElem?_toArray.trans rfl) (fun K hK => ?_) AllReadyH.nil)
              clear hHeld
              go_simp
              refine (HK.out _ (below_dn ⟨1, rfl⟩)).mono ?_
              rintro e w10 ⟨rfl, hb10⟩
              have HB10 := Lib.hid (show Below w9.heap.size w9 w10 from (below_dn (B := w9.heap.size) (a := w9) (b := w9.drew) ⟨1, rfl⟩).trans hb10)
              clear hb10
              have HX10 := Lib.hid ((HB10.out.block X (lt_heap HX9.out)).trans HX9.out)
              refine hK.out _ _ HX10.out (fun hHeld => ?_)
              clear hK K
              try simp only [Act.put, List.setIfInBounds_toArray, List.set_cons_zero, List.set_cons_succ]
              refine wpAnyH_take (i := 8) (v := .agg #[.string ⟨x.name.toArray⟩, .int .i64 kk, .int .i64 st]) (List.getElem?_toArray.trans rfl) (by kernel_rfl) (by kernel_rfl) (by kernel_rfl) (fun _ _ _ h => h) (Or.inl ⟨by rfl, fun W hW => by clear hW; go_simp⟩) (by assumption) ?_
              try simp only [Act.put, List.setIfInBounds_toArray, List.set_cons_zero, List.set_cons_succ]
              refine wpAnyH_ready (rs := [9]) (by kernel_rfl) (by simp) (AllReadyH.cons (List.getElem?_toArray.trans rfl) (fun K hK => ?_) AllReadyH.nil)
              clear hHeld
              go_simp
              have HX11 := Lib.hid (heap_alloc HX10.out (.cells #[.string ⟨x.name.toArray⟩, .int .i64 kk, .int .i64 st] 32))
              refine hK.out _ _ HX11.out (fun hHeld => ?_)
              clear hK K
              try simp only [Act.put, List.setIfInBounds_toArray, List.set_cons_zero, List.set_cons_succ]
              refine wpAnyH_ready (rs := [10]) (by kernel_rfl) (by simp) (AllReadyH.cons (List.getElem?_toArray.trans rfl) (fun K hK => ?_) AllReadyH.nil)
              have HND11 := Lib.hid ((HND9.out.below HB10.out).below ((Below.refl w10.heap.size w10).alloc (Nat.le_refl _) (.cells #[.string ⟨x.name.toArray⟩, .int .i64 kk, .int .i64 st] 32)))
              have hcell : ∀ j u, (encN ⟨x.name, kk, st⟩)[j]? = some u → ∃ b o, (some (⟨w10.heap.size, 0, none⟩ : Addr)) = some ⟨b, o, none⟩ ∧ (w10.alloc (.cells #[.string ⟨x.name.toArray⟩, .int .i64 kk, .int .i64 st] 32)).cell? ⟨b, o + j, none⟩ = some u := fun j u hj => ⟨w10.heap.size, 0, rfl, by
                rw [Nat.zero_add, (rd (heap_alloc_new w10 _)).1 j]
                simpa [encN] using hj⟩
              have HCE := Lib.hid hcell
              have HOW := Lib.hid (show (w10.alloc (.cells #[.string ⟨x.name.toArray⟩, .int .i64 kk, .int .i64 st] 32)).ownsRow w.heap.size 32 3 (.slice oa' acc.length cap') acc.length (flatL encN (acc.map fun x => nodeS (adjS x))) from by have := HND11.out.own; rwa [List.length_map] at this)
              have HSZ11 := Lib.hid (show w.heap.size ≤ (w10.alloc (.cells #[.string ⟨x.name.toArray⟩, .int .i64 kk, .int .i64 st] 32)).heap.size from HND11.out.fr.size)
              clear hcell hHeld
              refine step_append_rows (by rfl) (.tmp 49) (.tmp 58) 26 (by rfl) w.heap.size 32 i0 (.agg #[.string ⟨#[]⟩, .int .i64 0, .int .i64 0]) 3 32 Tryz.underlying26 hi0 hz0 hz1 hz2 (by rfl) (by decide) (.slice oa' acc.length cap') acc.length (flatL encN (acc.map fun x => nodeS (adjS x))) (by rfl) HOW.out (some ⟨w10.heap.size, 0, none⟩) 1 1 (encN ⟨x.name, kk, st⟩) (by rfl) (by rfl) HCE.out (by intro u hu; simp [encN] at hu; rcases hu with rfl | rfl | rfl <;> rfl) (by unfold maxLen; omega) (by omega) HSZ11.out ?_
              intro v12 w12 hown12 hgrow12
              have hX12 : w12.heap[X]? = some (.cells (cs) 53 (0, 0)) := by
                rw [hgrow12.block X (lt_heap HX11.out) (own_not_box HOW.out HX11.out (by decide))]; exact HX11.out
              have HND12 := Lib.hid (show NdIn w w12 B ML ME (some ⟨b, o, none⟩) l (tv ++ [(x.name, .agg (cs))]) ((acc ++ [x]).map adjS) ((acc ++ [x]).map fun x => nodeS (adjS x)) v12 from by
                rw [List.map_append, List.map_append]
                refine HND11.out.grow (n := nodeS (adjS x)) ?_ hgrow12
                rw [List.length_map]
                have hn : nodeS (adjS x) = ⟨x.name, kk, st⟩ := by show NodeS.mk x.name (kindS x.name) (adjS x).state = _; rw [HKK.out, HST.out]
                rw [hn]
                exact hown12)
              refine hK.out _ _ hX12 (fun hHeld => ?_)
              clear hK K hX12 hown12 hgrow12
              try simp only [Act.put, List.setIfInBounds_toArray, List.set_cons_zero, List.set_cons_succ]
              refine wpAnyH_take (i := 11) (v := v12) (List.getElem?_toArray.trans rfl) (by kernel_rfl) (by kernel_rfl) (by kernel_rfl) (fun _ _ _ h => h) (Or.inl ⟨by rfl, fun W hW => by clear hW; go_simp⟩) (by assumption) ?_
              try simp only [Act.put, List.setIfInBounds_toArray, List.set_cons_zero, List.set_cons_succ]
              refine wpAnyH_done (by kernel_rfl) ?_ _
              clear hHeld
              obtain ⟨oa2, cap2, rfl⟩ := ownsRow_form HND12.out.own
              go_wp2_with fail
              go_roundg (gk - 1)
              case measure => omega
              case rel => exact ⟨k + 1, tv ++ [(x.name, .agg (cs))], by omega, by go_num, by omega, by rw [HNN.out]; exact HND12⟩
    · have hke : k = l.length := by omega
      subst hke
      have hge : ¬ ((l.length : Int) < (l.length : Int)) := by omega
      rw [List.take_length] at HSk ⊢
      have hfl : (firstsR l []).map adjS = firstsS l := rfl
      have hfn : (firstsR l []).map (fun x => nodeS (adjS x)) = (firstsS l).map nodeS := by rw [firstsS, List.map_map]; rfl
      have hln : (firstsR l []).length = ((firstsS l).map nodeS).length := by simp [firstsS]
      rw [hfl, hfn] at HSk
      rw [hln] at HSk ⊢
      have hal : ((firstsS l).map nodeS).length < 4194304 := by have := firstsR_len l []; rw [← hln]; simp at this; omega
      have HAL := Lib.hid hal
      have HSO := Lib.hid (sortNodes_any w.heap.size _ ((firstsS l).map nodeS) wr HSk.out.own (by omega))
      clear hfl hfn hln hfu hk hlt
      generalize hNS : (firstsS l).map nodeS = NS at *
      have HNS := Lib.hid hNS; clear hNS
      go_wp2_with fail
      refine HSO.out.mono ?_
      rintro e w2 ⟨rfl, ns, hperm, hpw, hown, hf⟩
      have hlen : NS.length = ns.length := hperm.length_eq.symm
      have HP := Lib.hid (show ns.Perm ((firstsS l).map nodeS) by rw [HNS.out]; exact hperm)
      have HPW := Lib.hid hpw
      have HND := Lib.hid (show NdIn w w2 B ML ME oa l tv (firstsS l) ns (.slice oa' ns.length cap') from by rw [← hlen]; exact HSk.out.resort (by rw [hlen]; rw [hlen] at hown; exact hown) hf)
      rw [hlen] at HAL
      clear hperm hpw hown hf HSO hal hge HSk HNS
      have HT0 := Lib.hid (show (tv.filter fun p => decide (p.1 ∈ (ns.take ns.length).map (·.name))) = tv by
        rw [List.take_length]
        exact keys_all HND.out.tab0 fun x hx => List.mem_map.2 ⟨nodeS x, HP.out.mem_iff.2 (List.mem_map.2 ⟨x, hx, rfl⟩), rfl⟩)
      have HK0 := Lib.hid (show keptS l (ns.take ns.length) = firstsS l by rw [List.take_length]; exact kept_all HP.out)
      have HNDUP := Lib.hid (show (ns.map (·.name)).Nodup by rw [sorted_names HP.out HPW.out]; exact rises_nodup stoS (rises_sortL stoS _))
      rw [hlen]
      clear hlen
      go_wp2_with fail
      go_loopg [5] (ns.length + 1) (fun f v wr => ∃ n : Nat, v = .slice oa' n cap' ∧ n ≤ ns.length ∧ (64 ≤ n ∨ n = ns.length) ∧ n < f ∧ Hid (NdIn w wr B ML ME oa l (tv.filter fun p => decide (p.1 ∈ (ns.take n).map (·.name))) (keptS l (ns.take n)) (ns.take n) (.slice oa' n cap')))
      case atStart => exact ⟨ns.length, rfl, Nat.le_refl _, .inr rfl, by omega, by rw [HT0.out, HK0.out, List.take_length]; exact HND⟩
      case round =>
        obtain ⟨n, rfl, hn, hn2, hfu, HNn⟩ := hrel
        clear HND HT0 HK0
        have hall := HAL.out
        by_cases h64 : 64 < n
        · obtain ⟨m, rfl⟩ : ∃ m, n = m + 1 := ⟨n - 1, by omega⟩
          have hm : m < ns.length := by omega
          have hlm : (ns.take (m + 1)).length = m + 1 := by rw [List.length_take]; omega
          have hown := HNn.out.own
          rw [hlm] at hown
          obtain ⟨g, hg⟩ : ∃ g, oa' = some ⟨g, 0, none⟩ := by
            rcases hown.2 with ⟨h1, h2⟩ | ⟨g, cp, cur, h1, _⟩
            · omega
            · injection h1 with h1; exact ⟨g, h1⟩
          subst hg
          have hcp : m + 1 ≤ cap' := by
            rcases hown.2 with ⟨h1, h2⟩ | ⟨g, cp, cur, h1, hg, hgg, hnc, _⟩
            · omega
            · injection h1 with h1 h2 h3; omega
          have hcell : wr.cell? ⟨g, m * 3, none⟩ = some (.string ⟨ns[m].name.toArray⟩) := by
            have h1 := flatL_get (enc := encN) (k := 3) (fun _ => rfl) (ns.take (m + 1)) m 0 (by omega) (by omega)
            have h2 := hown.cells (g := g) rfl (m * 3 + 0) (.string ⟨ns[m].name.toArray⟩) (by rw [h1]; simp [encN])
            rw [Addr.add_mid] at h2
            simpa using h2
          obtain ⟨y, hy⟩ : ∃ y, y = ns[m].name := ⟨_, rfl⟩
          rw [← hy] at hcell
          have HY := Lib.hid hy
          have HQ := Lib.hid (show ∀ V, Fr (fun k => k = ML) wr V → V.cell? ⟨B, 0, none⟩ = some (.map (some ML)) ∧ V.cell? ⟨g, m * 3, none⟩ = some (.string ⟨y.toArray⟩) from by
            intro V hV
            refine ⟨(rd (hV.heap HNn.out.mkr.box HNn.out.mkr.ne.2.2)).1 0, ?_⟩
            obtain ⟨es, c, hb, _⟩ := HNn.out.mkr.tab
            exact cell_frm hb hV hcell)
          have HIN := Lib.hid (show ∃ v, (y, v) ∈ (tv.filter fun p => decide (p.1 ∈ (ns.take (m + 1)).map (·.name))) by
            have h1 : y ∈ (keptS l (ns.take (m + 1))).map (·.name) := by
              have h2 : ns[m] ∈ ns := List.getElem_mem hm
              obtain ⟨x, hx, e⟩ := List.mem_map.1 (HP.out.mem_iff.1 h2)
              refine List.mem_map.2 ⟨x, ?_, by rw [hy, ← e]; rfl⟩
              unfold keptS
              rw [List.mem_filter]
              refine ⟨hx, decide_eq_true ?_⟩
              refine List.mem_map.2 ⟨ns[m], ?_, by rw [← e]; rfl⟩
              rw [List.take_succ_eq_append_getElem hm]; exact List.mem_append_right _ (List.mem_singleton.2 rfl)
            rw [← HNn.out.tab0.keys] at h1
            obtain ⟨p, hp, e⟩ := List.mem_map.1 h1
            exact ⟨p.2, by rw [← e]; exact hp⟩)
          have i0' : (m : Int) < (m : Int) + 1 := by omega
          have i1' : (64 : Int) < ((m + 1 : Nat) : Int) := by omega
          have i2' : wrap64 (((m + 1 : Nat) : Int) - 1) = (m : Int) := by unfold wrap64; omega
          have i3' : ((m + 1 : Nat) : Int) > 64 := i1'
          have i4' : (m : Int) < ((m + 1 : Nat) : Int) := by omega
          have i5' : IntKind.i64.wrap (m : Int) = (m : Int) := by rw [IntKind.wrap_i64]; omega
          clear hcell hy hown hlm
          go_wp2_with fail
          refine wp_region_held_drew (S := fun V => Fr (fun k => k = ML) wr V) (by kernel_rfl) (Fr.refl _ _).drew (fun hHeld => ?_)
          try simp only [Act.put, List.setIfInBounds_toArray, List.set_cons_zero, List.set_cons_succ]
          refine wpAnyH_take (i := 0) (v := .pointer (some ⟨B, 0, none⟩)) (List.getElem?_toArray.trans rfl) (by kernel_rfl) (by kernel_rfl) (by kernel_rfl) (fun _ _ _ h => h) (Or.inl ⟨by rfl, fun W hW => by obtain ⟨q1, q2⟩ := HQ.out W hW; clear hW; go_simp⟩) (by assumption) ?_
          try simp only [Act.put, List.setIfInBounds_toArray, List.set_cons_zero, List.set_cons_succ]
          refine wpAnyH_take (i := 1) (v := .pointer (some ⟨B, 0, none⟩)) (List.getElem?_toArray.trans rfl) (by kernel_rfl) (by kernel_rfl) (by kernel_rfl) (fun _ _ _ h => h) (Or.inl ⟨by rfl, fun W hW => by obtain ⟨q1, q2⟩ := HQ.out W hW; clear hW; go_simp⟩) (by assumption) ?_
          try simp only [Act.put, List.setIfInBounds_toArray, List.set_cons_zero, List.set_cons_succ]
          refine wpAnyH_take (i := 2) (v := .pointer (some ⟨B, 0, none⟩)) (List.getElem?_toArray.trans rfl) (by kernel_rfl) (by kernel_rfl) (by kernel_rfl) (fun _ _ _ h => h) (Or.inl ⟨by rfl, fun W hW => by obtain ⟨q1, q2⟩ := HQ.out W hW; clear hW; go_simp⟩) (by assumption) ?_
          try simp only [Act.put, List.setIfInBounds_toArray, List.set_cons_zero, List.set_cons_succ]
          refine wpAnyH_take (i := 3) (v := .map (some ML)) (List.getElem?_toArray.trans rfl) (by kernel_rfl) (by kernel_rfl) (by kernel_rfl) (fun _ _ _ h => h) (Or.inl ⟨by rfl, fun W hW => by obtain ⟨q1, q2⟩ := HQ.out W hW; clear hW; go_simp⟩) (by assumption) ?_
          try simp only [Act.put, List.setIfInBounds_toArray, List.set_cons_zero, List.set_cons_succ]
          refine wpAnyH_take (i := 4) (v := .slice (some ⟨g, 0, none⟩) (m + 1) cap') (List.getElem?_toArray.trans rfl) (by kernel_rfl) (by kernel_rfl) (by kernel_rfl) (fun _ _ _ h => h) (Or.inl ⟨by rfl, fun W hW => by obtain ⟨q1, q2⟩ := HQ.out W hW; clear hW; go_simp⟩) (by assumption) ?_
          try simp only [Act.put, List.setIfInBounds_toArray, List.set_cons_zero, List.set_cons_succ]
          refine wpAnyH_take (i := 5) (v := .slice (some ⟨g, 0, none⟩) (m + 1) cap') (List.getElem?_toArray.trans rfl) (by kernel_rfl) (by kernel_rfl) (by kernel_rfl) (fun _ _ _ h => h) (Or.inl ⟨by rfl, fun W hW => by obtain ⟨q1, q2⟩ := HQ.out W hW; clear hW; go_simp⟩) (by assumption) ?_
          try simp only [Act.put, List.setIfInBounds_toArray, List.set_cons_zero, List.set_cons_succ]
          refine wpAnyH_take (i := 6) (v := .int .i64 ((m + 1 : Nat) : Int)) (List.getElem?_toArray.trans rfl) (by kernel_rfl) (by kernel_rfl) (by kernel_rfl) (fun _ _ _ h => h) (Or.inl ⟨by rfl, fun W hW => by obtain ⟨q1, q2⟩ := HQ.out W hW; clear hW; go_simp⟩) (by assumption) ?_
          try simp only [Act.put, List.setIfInBounds_toArray, List.set_cons_zero, List.set_cons_succ]
          refine wpAnyH_take (i := 7) (v := .int .i64 (m : Int)) (List.getElem?_toArray.trans rfl) (by kernel_rfl) (by kernel_rfl) (by kernel_rfl) (fun _ _ _ h => h) (Or.inl ⟨by rfl, fun W hW => by obtain ⟨q1, q2⟩ := HQ.out W hW; clear hW; go_simp⟩) (by assumption) ?_
          try simp only [Act.put, List.setIfInBounds_toArray, List.set_cons_zero, List.set_cons_succ]
          refine wpAnyH_take (i := 8) (v := .pointer (some ⟨g, m * 3, none⟩)) (List.getElem?_toArray.trans rfl) (by kernel_rfl) (by kernel_rfl) (by kernel_rfl) (fun _ _ _ h => h) (Or.inl ⟨by rfl, fun W hW => by obtain ⟨q1, q2⟩ := HQ.out W hW; clear hW; go_simp⟩) (by assumption) ?_
          try simp only [Act.put, List.setIfInBounds_toArray, List.set_cons_zero, List.set_cons_succ]
          refine wpAnyH_take (i := 9) (v := .pointer (some ⟨g, m * 3, none⟩)) (List.getElem?_toArray.trans rfl) (by kernel_rfl) (by kernel_rfl) (by kernel_rfl) (fun _ _ _ h => h) (Or.inl ⟨by rfl, fun W hW => by obtain ⟨q1, q2⟩ := HQ.out W hW; clear hW; go_simp⟩) (by assumption) ?_
          try simp only [Act.put, List.setIfInBounds_toArray, List.set_cons_zero, List.set_cons_succ]
          refine wpAnyH_take (i := 10) (v := .string ⟨y.toArray⟩) (List.getElem?_toArray.trans rfl) (by kernel_rfl) (by kernel_rfl) (by kernel_rfl) (fun _ _ _ h => h) (Or.inl ⟨by rfl, fun W hW => by obtain ⟨q1, q2⟩ := HQ.out W hW; clear hW; go_simp⟩) (by assumption) ?_
          try simp only [Act.put, List.setIfInBounds_toArray, List.set_cons_zero, List.set_cons_succ]
          obtain ⟨val, hin⟩ := HIN.out
          obtain ⟨w9, hrun, hm9, hf9⟩ := strike (strKeys Tryz.underlying9) Tryz.underlying66 (HNn.out.mkr.tab.fr (M := fun _ => False) (Fr.refl _ _).drew (fun h => h)) hin 0 #[66, 9] rfl
          have HF9 := Lib.hid (show Fr (fun k => k = ML) wr w9 from (Fr.refl _ _).drew.trans hf9)
          have hnn := HNn.out.strike y (fun s => decide (s ≠ y)) (fun _ => rfl) HF9.out hm9
          rw [HY.out, keys_step tv HNDUP.out hm, kept_step HNDUP.out hm] at hnn
          have hnc : NdIn w w9 B ML ME oa l (tv.filter fun p => decide (p.1 ∈ (ns.take m).map (·.name))) (keptS l (ns.take m)) (ns.take m) (.slice (some ⟨g, 0, none⟩) m cap') := by
            have hl1 : (ns.take (m + 1)).length = m + 1 := by rw [List.length_take]; omega
            have := NdIn.cut (by rw [hl1]; exact hnn) m (by omega)
            rwa [List.take_take, Nat.min_eq_left (by omega)] at this
          have HNC := Lib.hid hnc
          clear hnn hnc hm9 hf9 hin HIN HY HQ
          refine wpAnyH_ready (rs := [11]) (by kernel_rfl) (by simp) (AllReadyH.cons (List.getElem?_toArray.trans rfl) (fun K hK => ?_) AllReadyH.nil)
          rw [if_pos (by rfl)]
          refine oper_delete (.tmp 69) (.tmp 76) #[66, 9] (by rfl) (by rfl) (by rfl) hrun ?_
          clear hHeld hrun
          refine hK.out _ _ HF9.out (fun hHeld => ?_)
          clear hK K
          try simp only [Act.put, List.setIfInBounds_toArray, List.set_cons_zero, List.set_cons_succ]
          refine wpAnyH_done (by kernel_rfl) ?_ _
          clear hHeld
          have i6' : (m : Int) ≤ (cap' : Int) := by omega
          go_wp2_with fail
          go_roundg (gk - 1)
          case measure => omega
          case rel => exact ⟨m, rfl, by omega, by omega, by omega, HNC⟩
        · have hle : ¬ ((64 : Int) < (n : Int)) := by omega
          have hle2 : ¬ ((n : Int) > 64) := by omega
          have ht64 : ns.take n = ns.take 64 := by
            by_cases h : n = 64
            · rw [h]
            · have : n = ns.length := by omega
              rw [this, List.take_length, List.take_of_length_le (by omega)]
          have hnl : (ns.take n).length = n := by rw [List.length_take]; omega
          have HFIN := Lib.hid (show NodesOut w B ML ME l (.returned (.slice oa' n cap')) wr from by
            refine ⟨_, _, keptS l (ns.take n), rfl, ?_, HNn.out.mkr, HNn.out.tab, fun s => by rw [ht64]; exact kept_look HP.out HPW.out s, HNn.out.fr⟩
            rw [← sorted_nodes HP.out HPW.out, ← ht64]
            exact HNn.out.own)
          clear ht64 hnl
          go_wp2_with fail
          go_ret
          exact HFIN.out
end Go.Proofs.YtcaamakodneplaaGreat

/-
  Package graph: what Of walks over.
-/
namespace Go.Proofs.YtcaamakodneplaaGreat
open Go Go.RowKit
set_option linter.unusedVariables false
set_option maxRecDepth 100000

section
variable {t t' : List LdS} (h : ∀ s, lookS t' s = lookS t s)
include h
theorem put_congr : putS t' = putS t := by funext a b c; unfold putS; rw [h]
theorem has_congr : hasS t' = hasS t := by funext a b c; unfold hasS; rw [h]
theorem said_congr (x : LdS) : saidS t' x = saidS t x := by unfold saidS; rw [put_congr h]
theorem gathers_congr (x : LdS) : gathersS t' x = gathersS t x := by unfold gathersS; rw [put_congr h, has_congr h]
theorem standard_congr (x : LdS) : standardS t' x = standardS t x := by unfold standardS; rw [put_congr h, gathers_congr h]
end
/-- How Of stands, as its first loop goes. -/
structure OfIn (w5 wr : World) (GB B ML ME base : Nat) (tv : List (Str × Value)) (t : List LdS) (vn : Value) (ns : List NodeS) (es : List EdgeS) : Prop where
  fr : Fr (fun k => k = ME) w5 wr
  mkr : Mk wr B ML ME tv es
  tab0 : TabRd w5 tv t
  max0 : MaxAt w5
  gbox0 : w5.heap[GB]? = some (.cells #[vn, .slice none 0 0] 29 (0, 0))
  own0 : w5.ownsRow base 32 3 vn ns.length (flatL encN ns)
  map0 : ∃ es c, w5.heap[ME]? = some (.map es c)
  ne : GB ≠ ME
section
variable {w5 wr wr2 : World} {GB B ML ME base : Nat} {tv : List (Str × Value)} {t : List LdS} {vn : Value} {ns : List NodeS} {es es2 : List EdgeS}
theorem OfIn.tab (h : OfIn w5 wr GB B ML ME base tv t vn ns es) : TabRd wr tv t := by obtain ⟨es, c, hb⟩ := h.map0; exact h.tab0.frm hb h.fr
theorem OfIn.max (h : OfIn w5 wr GB B ML ME base tv t vn ns es) : MaxAt wr := by obtain ⟨es, c, hb⟩ := h.map0; exact h.max0.frm hb h.fr
theorem OfIn.gbox (h : OfIn w5 wr GB B ML ME base tv t vn ns es) : wr.heap[GB]? = some (.cells #[vn, .slice none 0 0] 29 (0, 0)) := h.fr.heap h.gbox0 h.ne
theorem OfIn.own (h : OfIn w5 wr GB B ML ME base tv t vn ns es) : wr.ownsRow base 32 3 vn ns.length (flatL encN ns) := by
  obtain ⟨es, c, hb⟩ := h.map0
  refine ⟨h.own0.1, ?_⟩
  rcases h.own0.2 with hn | ⟨g, cap, cur, hv, hg, hgg, rest⟩
  · exact .inl hn
  · exact .inr ⟨g, cap, cur, hv, hg, h.fr.heap hgg (fun e => by rw [e, hb] at hgg; cases hgg), rest⟩
theorem OfIn.below (h : OfIn w5 wr GB B ML ME base tv t vn ns es) (hb : Below wr.heap.size wr wr2) : OfIn w5 wr2 GB B ML ME base tv t vn ns es :=
  ⟨h.fr.trans (Fr.of_below hb _), h.mkr.below hb, h.tab0, h.max0, h.gbox0, h.own0, h.map0, h.ne⟩
theorem OfIn.put (h : OfIn w5 wr GB B ML ME base tv t vn ns es) {e : Ending} (hp : PutTo wr B ML ME tv es2 e wr2) : OfIn w5 wr2 GB B ML ME base tv t vn ns es2 :=
  ⟨h.fr.trans hp.2.2, hp.2.1, h.tab0, h.max0, h.gbox0, h.own0, h.map0, h.ne⟩
end
/-- A unit of the table, looked up. -/
theorem TabRd.get {w : World} {tv : List (Str × Value)} {t : List LdS} (h : TabRd w tv t) {s : Str} {x : LdS} (hx : lookS t s = some x) : ∃ cs, (s, .agg cs) ∈ tv ∧ LdRd w cs x := by
  rcases h.look s with ⟨h1, _⟩ | ⟨y, cs, h1, h2, h3, -⟩
  · rw [h1] at hx; cases hx
  · rw [h1] at hx; injection hx with hx; subst hx
    exact ⟨cs, h2, h3⟩
theorem flatMap_len {α β : Type} (f : α → List β) (c : Nat) : ∀ (l : List α), (∀ x ∈ l, (f x).length ≤ c) → (l.flatMap f).length ≤ l.length * c
  | [], _ => by simp
  | a :: r, h => by
    have h1 := flatMap_len f c r (fun x hx => h x (by simp [hx]))
    have h2 := h a (by simp)
    rw [List.flatMap_cons, List.length_append, List.length_cons, Nat.succ_mul]
    omega
theorem putS_len (t : List LdS) (a b : Str) (r : List Int) : (putS t a b r).length ≤ r.length := by
  unfold putS
  split <;> simp
theorem ownS_len (t : List LdS) (x : LdS) (h : LdSmall x) : (ownS t x).length ≤ 50000000 := by
  have n1 := h.rels; have n2 := h.wants; have n3 := h.reqs; have n4 := h.socks
  have f1 := flatMap_len (fun r : RelS => if 1 ≤ r.kind ∧ r.kind ≤ 9 then putS t x.name r.name [r.kind] else []) 1 x.rels (fun r _ => by split; exact putS_len _ _ _ _; simp)
  have f2 := flatMap_len (fun s => putS t x.name s [2]) 1 x.wants (fun r _ => putS_len _ _ _ _)
  have f3 := flatMap_len (fun s => putS t x.name s [1]) 1 x.reqs (fun r _ => putS_len _ _ _ _)
  have f4 := flatMap_len (fun s => putS t x.name s [2, 8]) 2 x.socks (fun r _ => putS_len _ _ _ _)
  have f5 := putS_len t x.name (wakesS x) [10, 7]
  have f6 := flatMap_len (fun s => if hasS t s 8 x.name then [] else putS t x.name s [8]) 1 (someS x) (fun r _ => by split; simp; exact putS_len _ _ _ _)
  have f7 : (someS x).length ≤ x.wants.length + x.reqs.length + x.rels.length := by
    unfold someS
    simp only [List.length_append, List.length_map]
    have := List.length_filter_le (fun r : RelS => r.kind == 1 || r.kind == 2) x.rels
    omega
  have f8 := putS_len t x.name sFirst [1]
  have f9 := putS_len t x.name sFirst [8]
  have f10 := putS_len t x.name sLast [6, 7]
  simp only [List.length_cons, List.length_nil] at f5 f8 f9 f10
  have hs : (saidS t x).length ≤ 30000000 := by
    unfold saidS
    simp only [List.length_append]
    have a5 : (if wakesS x ≠ [] then putS t x.name (wakesS x) [10, 7] else []).length ≤ 2 := by split; exact f5; simp
    have a4 : (if kindS x.name = 1 then x.socks.flatMap fun s => putS t x.name s [2, 8] else []).length ≤ x.socks.length * 2 := by split; exact f4; simp
    omega
  have hd : (standardS t x).length ≤ 15000000 := by
    unfold standardS
    split
    · unfold gathersS; omega
    · simp only [List.length_append]
      have a8 : (if kindS x.name = 1 then putS t x.name sFirst [1] else []).length ≤ 1 := by split; exact f8; simp
      omega
  unfold ownS
  split
  · rw [List.length_append]
    have : (if x.dflt then standardS t x else []).length ≤ 15000000 := by split; exact hd; simp
    omega
  · simp
theorem addE_len (l es : List EdgeS) : (addE es l).length ≤ es.length + l.length := by
  induction l generalizing es with
  | nil => simp [addE]
  | cons x r ih =>
    have e : addE es (x :: r) = addE (addE es [x]) r := rfl
    rw [e]
    have h1 := ih (addE es [x])
    have h2 : (addE es [x]).length ≤ es.length + 1 := by rw [addE_one]; split <;> simp
    simp only [List.length_cons]
    omega
theorem raw_len (t : List LdS) (h : ∀ x ∈ t, LdSmall x) (hl : t.length ≤ 64) : (addE [] (rawS t)).length ≤ 3200000000 := by
  have h1 := addE_len (rawS t) []
  have h2 := flatMap_len (ownS t) 50000000 t (fun x hx => ownS_len t x (h x hx))
  have h3 : t.length * 50000000 ≤ 64 * 50000000 := Nat.mul_le_mul_right _ hl
  unfold rawS at *
  simp only [List.length_nil] at h1
  omega
theorem infoEdge : (Tryz.prog.info? 58).map (fun i => (i.zero, i.size, i.bytes)) = some (some (.agg #[.string ⟨#[]⟩, .string ⟨#[]⟩, .int .i64 0]), 3, 40) := by kernel_rfl
theorem size_alloc (w : World) (o : Obj) : (w.alloc o).heap.size = w.heap.size + 1 := Array.size_push _
/-- What Of lays first. -/
theorem of_start (w : World) (a : Obj) : Mk ((((w.alloc a).alloc (.map #[] 0)).alloc (.map #[] 0)).alloc (.cells #[.map (some (w.heap.size + 1)), .map (some (w.heap.size + 1 + 1))] 69)) (w.heap.size + 1 + 1 + 1) (w.heap.size + 1) (w.heap.size + 1 + 1) [] [] ∧
    Below w.heap.size w ((((w.alloc a).alloc (.map #[] 0)).alloc (.map #[] 0)).alloc (.cells #[.map (some (w.heap.size + 1)), .map (some (w.heap.size + 1 + 1))] 69)) ∧
    ((((w.alloc a).alloc (.map #[] 0)).alloc (.map #[] 0)).alloc (.cells #[.map (some (w.heap.size + 1)), .map (some (w.heap.size + 1 + 1))] 69)).heap[w.heap.size]? = some a := by
  have s1 := size_alloc w a
  have s2 := size_alloc (w.alloc a) (.map #[] 0)
  have s3 := size_alloc ((w.alloc a).alloc (.map #[] 0)) (.map #[] 0)
  rw [s1] at s2
  rw [s2] at s3
  have h1 : ((w.alloc a).alloc (.map #[] 0)).heap[w.heap.size + 1]? = some (.map #[] 0) := by rw [← s1]; exact heap_alloc_new _ _
  have h2 : (((w.alloc a).alloc (.map #[] 0)).alloc (.map #[] 0)).heap[w.heap.size + 1 + 1]? = some (.map #[] 0) := by rw [← s2]; exact heap_alloc_new _ _
  have mk1 : ∀ (W : World) (m : Nat), W.heap[m]? = some (.map #[] 0) → MapOf strKey W m [] ∧ MapOf edgeKey W m (edgeVals []) := fun W m h => ⟨⟨#[], 0, h, MapKept.stamped_empty 0, rfl⟩, ⟨#[], 0, h, MapKept.stamped_empty 0, rfl⟩⟩
  refine ⟨⟨?_, (mk1 _ _ (heap_alloc (heap_alloc h1 _) _)).1, (mk1 _ _ (heap_alloc h2 _)).2, by omega, by omega, by omega⟩, ?_, heap_alloc (heap_alloc (heap_alloc (heap_alloc_new w a) _) _) _⟩
  · rw [← s3]; exact heap_alloc_new _ _
  · exact ((((Below.refl w.heap.size w).alloc (Nat.le_refl _) _).alloc (by omega) _).alloc (by omega) _).alloc (by omega) _
end Go.Proofs.YtcaamakodneplaaGreat

/-
  Package graph: Of.
-/
namespace Go.Proofs.YtcaamakodneplaaGreat
open Go Go.RowKit
set_option linter.unusedVariables false
set_option linter.unusedSimpArgs false
set_option maxRecDepth 100000

/-- What Of says. -/
def OfOut (w : World) (l : List LdS) (e : Ending) (w' : World) : Prop :=
  ∃ vn ve, e = .returned (.agg #[vn, ve]) ∧ w'.ownsRow w.heap.size 32 3 vn (nodesS l).length (flatL encN (nodesS l)) ∧ w'.ownsRow w.heap.size 58 3 ve (edgesS l).length (flatL encE (edgesS l)) ∧ Below w.heap.size w w'

theorem run_makeMap0 (t : TypeId) (W : World) : (Instr.makeMap t none).run Tryz.prog W = .ok (.map (some W.heap.size)) (W.alloc (.map #[] 0)) := by
  simp [Instr.makeMap, Result.andThen, Sem.run, newObj]

set_option maxHeartbeats 1000000 in
theorem gof_any (oa : Option Addr) (cap : Nat) (l : List LdS) (w : World) (hR : LdsRd w oa l) (hl : l.length < 4194304) (hm : MaxAt w) :
    Calls Tryz.prog 12 #[.slice oa l.length cap] w fun e w' => OfOut w l e w' := by
  have HR := Lib.hid hR; have HX := Lib.hid hm
  clear hR hm
  obtain ⟨j0, hj0, hjz, hj1, hj2⟩ := info_parts infoEdge
  have m1 := run_makeMap0 66
  have m2 := run_makeMap0 67
  go_enter Tryz.func12, Tryz.ntmps12
  go_wp2_with fail
  obtain ⟨hmk, hb4, hz4⟩ := of_start w (.cells #[.slice none 0 0, .slice none 0 0] 29)
  generalize hW4 : (((w.alloc (.cells #[.slice none 0 0, .slice none 0 0] 29)).alloc (.map #[] 0)).alloc (.map #[] 0)).alloc (.cells #[.map (some (w.heap.size + 1)), .map (some (w.heap.size + 1 + 1))] 69) = w4 at *
  generalize hB : w.heap.size + 1 + 1 + 1 = B at *
  generalize hME : w.heap.size + 1 + 1 = ME at *
  generalize hML : w.heap.size + 1 = ML at *
  have HBn := Lib.hid (And.intro hB (And.intro hME hML))
  have HB4 := Lib.hid hb4; have HZ4 := Lib.hid hz4
  have HN := Lib.hid (nodes_any B ML ME oa cap l w4 hmk (HR.out.below hb4) hl (HX.out.below hb4))
  have HM4 := Lib.hid hmk
  clear hmk hb4 hz4 hW4 hB hME hML m1 m2
  refine HN.out.mono ?_
  rintro e w5 ⟨vn, tv, t', rfl, hown, hmk5, htab5, hlk5, hfr5⟩
  obtain ⟨ao, cpn, rfl⟩ := ownsRow_form hown
  have HF5 := Lib.hid hfr5
  have HO5 := Lib.hid hown; have HM5 := Lib.hid hmk5; have HT5 := Lib.hid htab5; have HL5 := Lib.hid hlk5
  clear hown hmk5 htab5 hlk5 hfr5 HN
  go_wp2_with fail
  have HTL := Lib.hid (show (tableS l).length ≤ 64 by
    have := congrArg List.length (table_names l)
    rw [List.length_map] at this
    rw [this]; unfold namesS; rw [List.length_take]; omega)
  have HTK := Lib.hid (fun x (h : x ∈ tableS l) => look_of h)
  have HE := Lib.hid (show edgesS l = sortL ltE (rawS (tableS l)) from rfl)
  have HNL := Lib.hid (show nodesS l = (tableS l).map nodeS from rfl)
  have hnl : (nodesS l).length = (tableS l).length := by rw [HNL.out, List.length_map]
  rw [hnl] at HO5 ⊢
  have HO5b := Lib.hid (show w5.ownsRow w4.heap.size 32 3 (.slice ao (tableS l).length cpn) ((tableS l).map nodeS).length (flatL encN ((tableS l).map nodeS)) by rw [List.length_map]; exact HO5.out)
  have HS := Lib.hid (show OfIn (w5.alloc (.cells #[.slice ao (tableS l).length cpn, .slice none 0 0] 29)) (w5.alloc (.cells #[.slice ao (tableS l).length cpn, .slice none 0 0] 29)) w5.heap.size B ML ME w4.heap.size tv t' (.slice ao (tableS l).length cpn) ((tableS l).map nodeS) [] from by
    have hb := (Below.refl w5.heap.size w5).alloc (Nat.le_refl _) (.cells #[.slice ao (tableS l).length cpn, .slice none 0 0] 29)
    obtain ⟨es, c, hm, -⟩ := HM5.out.set
    obtain ⟨es1, c1, hm1, -⟩ := HM4.out.tab
    exact ⟨Fr.refl _ _, HM5.out.below hb, HT5.out.below hb, ((HX.out.below HB4.out).frm hm1 HF5.out).below hb, heap_alloc_new _ _, own_keeps HO5b.out hb, ⟨es, c, heap_alloc hm _⟩, fun e => by have := lt_heap hm; omega⟩)
  have HB6 := Lib.hid ((Below.refl w5.heap.size w5).alloc (Nat.le_refl _) (.cells #[.slice ao (tableS l).length cpn, .slice none 0 0] 29))
  clear hnl HO5 HO5b
  generalize w5.alloc (.cells #[.slice ao (tableS l).length cpn, .slice none 0 0] 29) = w6 at *
  generalize hGB : w5.heap.size = GB at *
  have HGB := Lib.hid hGB; clear hGB
  generalize hT : tableS l = T at *
  have HT := Lib.hid hT; clear hT
  go_loopg [20] (T.length + 1) (fun f i wr => ∃ k : Nat, k ≤ T.length ∧ i = .int .i64 k ∧ T.length - k < f ∧ Hid (OfIn w6 wr GB B ML ME w4.heap.size tv t' (.slice ao T.length cpn) (T.map nodeS) (addE [] ((T.take k).flatMap (ownS T)))))
  case atStart => exact ⟨0, by omega, rfl, by omega, HS⟩
  case round =>
    obtain ⟨k, hk, rfl, hfu, HSk⟩ := hrel
    clear HS
    have htl := HTL.out
    by_cases hlt : k < T.length
    · obtain ⟨x, hx⟩ : ∃ x, x = T[k] := ⟨_, rfl⟩
      have hown := HSk.out.own
      have hrow := RowRd.of_own (enc := encN) (k := 3) (fun _ => rfl) (l := T.map nodeS) (oa := ao) (cap := cpn) (by rw [List.length_map] at hown ⊢; exact hown)
      obtain ⟨g, o, rfl, hglt, hcc⟩ := hrow k (by rw [List.length_map]; exact hlt)
      rw [List.getElem_map, ← hx] at hcc
      have d0 := hcc 0 _ rfl; have d1 := hcc 1 _ rfl; have d2 := hcc 2 _ rfl
      simp only [Nat.add_zero] at d0
      have i5 : (k : Int) < (T.length : Int) := by omega
      have hsn : (T.take (k + 1)).flatMap (ownS T) = (T.take k).flatMap (ownS T) ++ ownS T x := by
        rw [List.take_succ_eq_append_getElem hlt, List.flatMap_append, hx]; simp
      have HSN := Lib.hid hsn
      have hlk : lookS t' x.name = some x := by
        rw [HL5.out, hx]; exact HTK.out _ (List.getElem_mem hlt)
      obtain ⟨cs, hin, hld0⟩ := HSk.out.tab0.get hlk
      have HLD := Lib.hid hld0
      have HIN := Lib.hid hin
      have gb := (rd HSk.out.gbox).1 0
      simp only [List.getElem?_toArray, List.getElem?_cons_zero] at gb
      change wr.cell? ⟨g, o + k * 3, none⟩ = some (.string ⟨x.name.toArray⟩) at d0
      change wr.cell? ⟨g, o + k * 3 + 1, none⟩ = some (.int .i64 (kindS x.name : Nat)) at d1
      change wr.cell? ⟨g, o + k * 3 + 2, none⟩ = some (.int .i64 x.state) at d2
      generalize hkk : kindS x.name = kk at *
      have HKK := Lib.hid hkk
      obtain ⟨pre, hpre⟩ : ∃ z, z = addE [] ((T.take k).flatMap (ownS T)) := ⟨_, rfl⟩
      rw [← hpre] at HSk
      have HPRE := Lib.hid hpre
      clear hcc hx hown hrow hsn hlk hin hld0 hkk hpre
      go_wp2_with fail
      have HSa := Lib.hid (HSk.out.below ((Below.refl wr.heap.size wr).alloc (Nat.le_refl _) (.cells #[.string ⟨x.name.toArray⟩, .int .i64 (kk : Nat), .int .i64 x.state] 32)))
      have HNB := Lib.hid (heap_alloc_new wr (.cells #[.string ⟨x.name.toArray⟩, .int .i64 (kk : Nat), .int .i64 x.state] 32))
      generalize wr.alloc (.cells #[.string ⟨x.name.toArray⟩, .int .i64 (kk : Nat), .int .i64 x.state] 32) = wa at *
      generalize wr.heap.size = N at *
      have HQ := Lib.hid (show ∀ V, Below wa.heap.size wa V → V.cell? ⟨B, 0, none⟩ = some (.map (some ML)) ∧ V.cell? ⟨N, 0, none⟩ = some (.string ⟨x.name.toArray⟩) ∧ (Instr.lookup 66 (.map (some ML)) (.string ⟨x.name.toArray⟩) false).run Tryz.prog V = .ok (.agg cs) V from by
        intro V hV
        refine ⟨(rd (HSa.out.below hV).mkr.box).1 0, ?_, look_some (strKeys Tryz.underlying9) Tryz.underlying66 (HSa.out.below hV).mkr.tab HIN.out false⟩
        rw [hV.cell (lt_heap HNB.out)]; exact (rd HNB.out).1 0)
      have HZ := Lib.hid (And.intro HLD.out.size HLD.out.one)
      clear d0 d1 d2 gb HSk
      refine wp_region_held_drew (S := fun V => Below wa.heap.size wa V) (by kernel_rfl) (below_dn ⟨1, rfl⟩) (fun hHeld => ?_)
      try simp only [Act.put, List.setIfInBounds_toArray, List.set_cons_zero, List.set_cons_succ]
      refine wpAnyH_take (i := 0) (v := .pointer (some ⟨B, 0, none⟩)) (List.getElem?_toArray.trans rfl) (by kernel_rfl) (by kernel_rfl) (by kernel_rfl) (fun _ _ _ h => h) (Or.inl ⟨by rfl, fun W hW => by obtain ⟨q1, q2, q3⟩ := HQ.out W hW; clear hW; go_simp⟩) (by assumption) ?_
      try simp only [Act.put, List.setIfInBounds_toArray, List.set_cons_zero, List.set_cons_succ]
      refine wpAnyH_take (i := 1) (v := .pointer (some ⟨B, 0, none⟩)) (List.getElem?_toArray.trans rfl) (by kernel_rfl) (by kernel_rfl) (by kernel_rfl) (fun _ _ _ h => h) (Or.inl ⟨by rfl, fun W hW => by obtain ⟨q1, q2, q3⟩ := HQ.out W hW; clear hW; go_simp⟩) (by assumption) ?_
      try simp only [Act.put, List.setIfInBounds_toArray, List.set_cons_zero, List.set_cons_succ]
      refine wpAnyH_take (i := 2) (v := .pointer (some ⟨B, 0, none⟩)) (List.getElem?_toArray.trans rfl) (by kernel_rfl) (by kernel_rfl) (by kernel_rfl) (fun _ _ _ h => h) (Or.inl ⟨by rfl, fun W hW => by obtain ⟨q1, q2, q3⟩ := HQ.out W hW; clear hW; go_simp⟩) (by assumption) ?_
      try simp only [Act.put, List.setIfInBounds_toArray, List.set_cons_zero, List.set_cons_succ]
      refine wpAnyH_take (i := 3) (v := .map (some ML)) (List.getElem?_toArray.trans rfl) (by kernel_rfl) (by kernel_rfl) (by kernel_rfl) (fun _ _ _ h => h) (Or.inl ⟨by rfl, fun W hW => by obtain ⟨q1, q2, q3⟩ := HQ.out W hW; clear hW; go_simp⟩) (by assumption) ?_
      try simp only [Act.put, List.setIfInBounds_toArray, List.set_cons_zero, List.set_cons_succ]
      refine wpAnyH_take (i := 4) (v := .pointer (some ⟨N, 0, none⟩)) (List.getElem?_toArray.trans rfl) (by kernel_rfl) (by kernel_rfl) (by kernel_rfl) (fun _ _ _ h => h) (Or.inl ⟨by rfl, fun W hW => by obtain ⟨q1, q2, q3⟩ := HQ.out W hW; clear hW; go_simp⟩) (by assumption) ?_
      try simp only [Act.put, List.setIfInBounds_toArray, List.set_cons_zero, List.set_cons_succ]
      refine wpAnyH_take (i := 5) (v := .string ⟨x.name.toArray⟩) (List.getElem?_toArray.trans rfl) (by kernel_rfl) (by kernel_rfl) (by kernel_rfl) (fun _ _ _ h => h) (Or.inl ⟨by rfl, fun W hW => by obtain ⟨q1, q2, q3⟩ := HQ.out W hW; clear hW; go_simp⟩) (by assumption) ?_
      try simp only [Act.put, List.setIfInBounds_toArray, List.set_cons_zero, List.set_cons_succ]
      refine wpAnyH_take (i := 6) (v := .agg cs) (List.getElem?_toArray.trans rfl) (by kernel_rfl) (by kernel_rfl) (by kernel_rfl) (fun _ _ _ h => h) (Or.inl ⟨by rfl, fun W hW => by obtain ⟨q1, q2, q3⟩ := HQ.out W hW; clear hW; go_simp⟩) (by assumption) ?_
      try simp only [Act.put, List.setIfInBounds_toArray, List.set_cons_zero, List.set_cons_succ]
      refine wpAnyH_ready (rs := [7]) (by kernel_rfl) (by simp) (AllReadyH.cons (List.getElem?_toArray.trans rfl) (fun K hK => ?_) AllReadyH.nil)
      rw [if_pos (by rfl)]
      refine oper_alloc_at wa.heap.size rfl 53 loadedZero rfl (run_alloc_loaded _) ?_
      intro w7 h7 hb7 hl7
      have HB7 := Lib.hid (show Below wa.heap.size wa w7 from (below_dn (B := wa.heap.size) (a := wa) (b := wa.drew) ⟨1, rfl⟩).trans hb7)
      clear hHeld
      refine hK.out _ _ HB7.out (fun hHeld => ?_)
      clear hK K
      try simp only [Act.put, List.setIfInBounds_toArray, List.set_cons_zero, List.set_cons_succ]
      refine wpAnyH_ready (rs := [8]) (by kernel_rfl) (by simp) (AllReadyH.cons (List.getElem?_toArray.trans rfl) (fun K hK => ?_) AllReadyH.nil)
      rw [if_pos (by rfl)]
      refine oper_store_all 53 _ _ wa.heap.size cs loadedZero 53 rfl rfl rfl h7 (by rw [HZ.out.1]; rfl) (by rw [HZ.out.1]; rfl) HZ.out.2 ?_
      intro w8 h8 hf8
      have HB8 := Lib.hid (show Below wa.heap.size wa w8 from HB7.out.trans (hf8.below _ HB7.out.size (fun k hk e => by omega)))
      clear hHeld
      refine hK.out _ _ HB8.out (fun hHeld => ?_)
      clear hK K
      try simp only [Act.put, List.setIfInBounds_toArray, List.set_cons_zero, List.set_cons_succ]
      refine wpAnyH_done (by kernel_rfl) ?_ _
      clear hHeld hb7 hl7 hf8 HB7 h7
      have HS8 := Lib.hid (HSa.out.below HB8.out)
      have HX8 := Lib.hid h8
      have hXE : wa.heap.size ≠ ME := fun e => by have := HSa.out.mkr.set.lt; omega
      have HN8 := Lib.hid ((HB8.out.block N (lt_heap HNB.out)).trans HNB.out)
      have hNE : N ≠ ME := fun e => by
        obtain ⟨es, c, hm, -⟩ := HS8.out.mkr.set
        have := HN8.out
        rw [e, hm] at this; cases this
      have k2 := (rd HN8.out).1 2
      simp only [List.getElem?_toArray, List.getElem?_cons_zero, List.getElem?_cons_succ] at k2
      have hNlt := lt_heap HN8.out
      have HLD8 := Lib.hid (show LdRd w8 cs x from by obtain ⟨es, c, hb⟩ := HS8.out.map0; exact HLD.out.frm hb HS8.out.fr)
      generalize wa.heap.size = X at *
      clear h8 HQ HB8 HSa HNB
      by_cases hst : x.state = 1
      · have q1 : (x.state != 1) = false := by rw [hst]; rfl
        have HSD := Lib.hid (said_any B ML ME tv t' pre cs x w8 HS8.out.mkr HS8.out.tab HLD8.out HS8.out.max (addE pre (saidS T x)) (by rw [said_congr HL5.out]))
        go_wp2_with (refine l_load rfl 53 _ X cs 53 _ rfl rfl HX8.out rfl rfl (by rw [HZ.out.1]; rfl) ?_)
        refine HSD.out.mono ?_
        rintro e w9 hp
        have HS9 := Lib.hid (HS8.out.put hp)
        have HX9 := Lib.hid (hp.2.2.heap HX8.out hXE)
        obtain ⟨rfl, -, -⟩ := hp
        have k8 := ((rd HX9.out).1 8).trans HLD.out.dflt
        have hXlt := lt_heap HX9.out
        have HLD9 := Lib.hid (show LdRd w9 cs x from by obtain ⟨es, c, hb⟩ := HS9.out.map0; exact HLD.out.frm hb HS9.out.fr)
        clear HSD k2 HS8 HX8 HLD8
        cases hd : x.dflt with
        | true =>
          have HNN := Lib.hid (show addE [] ((T.take (k + 1)).flatMap (ownS T)) = addE (addE pre (saidS T x)) (standardS T x) by
            rw [HSN.out, addE_append, ← HPRE.out]; unfold ownS; rw [if_pos hst, hd, if_pos rfl, addE_append])
          have HST := Lib.hid (standard_any B ML ME tv t' (addE pre (saidS T x)) cs x w9 HS9.out.mkr HS9.out.tab HLD9.out HS9.out.max (addE (addE pre (saidS T x)) (standardS T x)) (by rw [standard_congr HL5.out]))
          rw [hd] at k8
          go_wp2_with (refine l_load rfl 53 _ X cs 53 _ rfl rfl HX9.out rfl rfl (by rw [HZ.out.1]; rfl) ?_)
          refine HST.out.mono ?_
          rintro e w10 hp
          have HS10 := Lib.hid (HS9.out.put hp)
          obtain ⟨rfl, -, -⟩ := hp
          clear HST HS9 HX9 k8
          go_wp2_with fail
          go_roundg (gk - 1)
          case measure => omega
          case rel => exact ⟨k + 1, by omega, by go_num, by omega, by rw [HNN.out]; exact HS10⟩
        | false =>
          have HNN := Lib.hid (show addE [] ((T.take (k + 1)).flatMap (ownS T)) = addE pre (saidS T x) by
            rw [HSN.out, addE_append, ← HPRE.out]; unfold ownS; rw [if_pos hst, hd, if_neg (by simp), List.append_nil])
          rw [hd] at k8
          go_wp2_with fail
          go_roundg (gk - 1)
          case measure => omega
          case rel => exact ⟨k + 1, by omega, by go_num, by omega, by rw [HNN.out]; exact HS9⟩
      · have q1 : (x.state != 1) = true := by rw [bne_iff_ne]; exact hst
        have HNN := Lib.hid (show addE [] ((T.take (k + 1)).flatMap (ownS T)) = pre by
          rw [HSN.out, addE_append, ← HPRE.out]; unfold ownS; rw [if_neg hst, addE_nil])
        clear hst
        go_wp2_with fail
        go_roundg (gk - 1)
        case measure => omega
        case rel => exact ⟨k + 1, by omega, by go_num, by omega, by rw [HNN.out]; exact HS8⟩
    · have hke : k = T.length := by omega
      subst hke
      have hge : ¬ ((T.length : Int) < (T.length : Int)) := by omega
      have HSX := Lib.hid (show OfIn w6 wr GB B ML ME w4.heap.size tv t' (.slice ao T.length cpn) (T.map nodeS) (addE [] (rawS T)) from by have := HSk.out; rw [List.take_length] at this; exact this)
      have HMM := Lib.hid (mem_addE [] (rawS T))
      have HEL := Lib.hid (raw_len T (fun x hx => by
        obtain ⟨cs, -, h⟩ := HSX.out.tab0.get (s := x.name) (x := x) (by rw [HL5.out]; exact HTK.out x hx)
        exact h.small) HTL.out)
      have hGE : GB ≠ ME := HSX.out.ne
      clear HSk hlt hfu hk
      generalize addE [] (rawS T) = es at *
      obtain ⟨w7, hrg, hro, hb7, hs7⟩ := range_start (P := Tryz.prog) (E := 4) Tryz.underlying67 HSX.out.mkr.set
      have k1 := (rd HSX.out.mkr.box).1 1
      simp only [List.getElem?_toArray, List.getElem?_cons_zero, List.getElem?_cons_succ] at k1
      have HRO := Lib.hid hro; have HB7 := Lib.hid hb7
      have HS7 := Lib.hid (HSX.out.below hb7)
      have HRN := Lib.hid hs7
      clear hro hb7 hs7
      go_wp2_with fail
      have HBW7 := Lib.hid (show Below w.heap.size w w7 from by
        have hn := HBn.out
        have s4 := HB4.out.size
        have s5 := HF5.out.size
        have b5 : Below w.heap.size w w5 := HB4.out.trans (HF5.out.below _ s4 (fun k hk e => by omega))
        have b6 : Below w.heap.size w w6 := b5.trans (HB6.out.mono (by have := HGB.out; omega))
        have s6 := b6.size
        have b7 : Below w.heap.size w wr := b6.trans (HSX.out.fr.below _ s6 (fun k hk e => by omega))
        exact b7.trans (HB7.out.mono b7.size))
      have HR7 := Lib.hid (show w7.heap[w.heap.size]? = some (.cells #[.slice none 0 0, .slice none 0 0] 29 (0, 0)) from by
        have hn := HBn.out
        have h5 := HF5.out.heap HZ4.out (by omega)
        have h6 := (HB6.out.block _ (by have := lt_heap h5; have := HGB.out; omega)).trans h5
        have h7 := HSX.out.fr.heap h6 (by omega)
        exact (HB7.out.block _ (lt_heap h7)).trans h7)
      have HON := Lib.hid (show w7.ownsRow w.heap.size 32 3 (.slice ao T.length cpn) (T.map nodeS).length (flatL encN (T.map nodeS)) from by
        have h := HS7.out.own
        refine ⟨h.1, ?_⟩
        rcases h.2 with hn | ⟨g, cp, cur, hv, hg, hgg, rest⟩
        · exact .inl hn
        · exact .inr ⟨g, cp, cur, hv, by have := HB4.out.size; omega, hgg, rest⟩)
      have HG7 := Lib.hid HS7.out.gbox
      have hrE : wr.heap.size ≠ ME := fun e => by have := HSX.out.mkr.set.lt; omega
      have hGr : GB ≠ wr.heap.size := fun e => by have := lt_heap HSX.out.gbox; omega
      have hRG : w.heap.size ≠ GB := fun e => by have := HGB.out; have := HB4.out.size; have := HF5.out.size; have := lt_heap HZ4.out; omega
      have hrlt : wr.heap.size < w7.heap.size := by have := HRN.out; omega
      have hRlt := lt_heap HR7.out
      have hMElt := HS7.out.mkr.set.lt
      have hGlt := lt_heap HG7.out
      have HND := Lib.hid (show es.Nodup from by
        have := MapOf.keys_nodup edgeKeys HSX.out.mkr.set
        simpa [edgeVals, Function.comp_def] using this)
      have hRr : w.heap.size < wr.heap.size := by have := HGB.out; have := HB4.out.size; have := HF5.out.size; have := lt_heap HZ4.out; have := HB6.out.size; have := HSX.out.fr.size; omega
      have hRG2 : w.heap.size < GB := by have := HGB.out; have := HB4.out.size; have := HF5.out.size; have := lt_heap HZ4.out; omega
      have HNR := Lib.hid (show ∀ g cur, w7.heap[g]? = some (.cells cur 32 (0, 0)) → g ≠ wr.heap.size ∧ g ≠ GB from by
        intro g cur hg
        obtain ⟨es0, c0, seen, h1, -⟩ := HRO.out
        refine ⟨fun e => (by rw [e, h1] at hg; cases hg), fun e => ?_⟩
        rw [e, HG7.out] at hg
        injection hg with hg
        injection hg with h3 h4
        exact absurd h4 (by decide))
      generalize wr.heap.size = r at *
      clear k1 hrg HSX HS7 HB7 HRN HB6 HF5 HM5 HT5 HM4 HZ4 hge
      go_loopg [8] (es.length + 1) (fun f _ wq => ∃ (xs rem : List EdgeS) (ve : Value), es.Perm (xs ++ rem) ∧ rem.length < f ∧ Hid (RangeOf edgeKey wq r ME (edgeVals es) xs) ∧ Hid (wq.heap[GB]? = some (.cells #[.slice ao T.length cpn, ve] 29 (0, 0))) ∧ Hid (wq.ownsRow w7.heap.size 58 3 ve xs.length (flatL encE xs)) ∧ Hid (Fr (fun k => k = r ∨ k = GB) w7 wq))
      case atStart => exact ⟨[], es, .slice none 0 0, by simp, by omega, HRO, HG7, World.ownsRow_nil _ _ _ _, Fr.refl _ _⟩
      case round =>
        obtain ⟨xs, rem, ve, hperm, hfu, HRq, HGq, HOq, HFq⟩ := hrel
        clear HRO HG7
        obtain ⟨oe, ce, rfl⟩ := ownsRow_form HOq.out
        have hlen : xs.length ≤ es.length := by have := hperm.length_eq; simp at this; omega
        have hel := HEL.out
        rcases range_next edgeKeys HRq.out hrE 0 with ⟨hn, hall⟩ | ⟨x, v, w8, hin, hnot, hnx, hro8, hf8, hent⟩
        · have HALL := Lib.hid (show ∀ y, y ∈ xs ↔ y ∈ es from fun y => by rw [hall]; simp [edgeVals])
          have HXN := Lib.hid (show xs.Nodup from by have := hperm.nodup_iff.1 HND.out; exact (List.nodup_append.1 this).1)
          have kg := (rd HGq.out).1 1
          simp only [List.getElem?_toArray, List.getElem?_cons_zero, List.getElem?_cons_succ] at kg
          have HSO := Lib.hid (sortEdges_any w7.heap.size _ xs wr HOq.out (by omega))
          clear hall hperm hfu
          go_wp2_with fail
          refine HSO.out.mono ?_
          rintro e w9 ⟨rfl, ls, hp, hpw, hown, hf⟩
          have hls : ls = edgesS l := by
            rw [HE.out]
            refine sortL_eq stoE ?_ (fun y => by rw [hp.mem_iff, HALL.out, HMM.out]; simp)
            have hnd : ls.Nodup := hp.nodup_iff.2 HXN.out
            refine (hpw.and hnd).imp ?_
            rintro a b ⟨h3, h4⟩
            cases hq : ltE a b with
            | true => rfl
            | false => exact absurd (stoE.tri _ _ hq h3) h4
          have hob : ∀ g, (Value.slice oe xs.length ce).ownBlock = some g → w7.heap.size ≤ g := fun g e => (HOq.out.lt g e).1
          have hg9 := hf.heap HGq.out (fun e => own_not_box HOq.out HGq.out (by decide) e.symm)
          have hRq := HFq.out.heap HR7.out (by omega)
          have hR9 := hf.heap hRq (fun e => by have := hob _ e; omega)
          have hn9 : w9.ownsRow w.heap.size 32 3 (.slice ao T.length cpn) (T.map nodeS).length (flatL encN (T.map nodeS)) := by
            refine ⟨HON.out.1, ?_⟩
            rcases HON.out.2 with hn | ⟨g, cp, cur, hv, hg, hgg, rest⟩
            · exact .inl hn
            · have h2 := HFq.out.heap hgg (by have := HNR.out g cur hgg; omega)
              exact .inr ⟨g, cp, cur, hv, hg, hf.heap h2 (fun e => own_not_box HOq.out h2 (by decide) e.symm), rest⟩
          obtain ⟨kg0, kf0, -, hglt9⟩ := rd hg9
          obtain ⟨kr, krf, -, hrlt9⟩ := rd hR9
          have a0 := kg0 0; have a1 := kg0 1; have b0 := kr 0; have b1 := kr 1; have c0 := krf 0; have c1 := krf 1
          simp only [List.getElem?_toArray, List.getElem?_cons_zero, List.getElem?_cons_succ] at a0 a1 b0 b1
          have HRF := Lib.hid (heap_setCell (heap_setCell hR9 0 (.slice ao T.length cpn)) 1 (.slice oe xs.length ce))
          have F1 : Fr (fun k => k = w.heap.size) w9 ((w9.setCell ⟨w.heap.size, 0, none⟩ (.slice ao T.length cpn)).setCell ⟨w.heap.size, 1, none⟩ (.slice oe xs.length ce)) := Fr.setCell (M := fun k => k = w.heap.size) (Fr.setCell (M := fun k => k = w.heap.size) (Fr.refl _ w9) (fun _ => rfl) _) (fun _ => rfl) _
          have keep : ∀ {T0 : TypeId} {n : Nat} {v : Value} {xs0 : List Value} {b : Nat}, w9.ownsRow b T0 3 v n xs0 → T0 ≠ 29 → ((w9.setCell ⟨w.heap.size, 0, none⟩ (.slice ao T.length cpn)).setCell ⟨w.heap.size, 1, none⟩ (.slice oe xs.length ce)).ownsRow b T0 3 v n xs0 := by
            intro T0 n v xs0 b h hT
            refine ⟨h.1, ?_⟩
            rcases h.2 with hn | ⟨g, cp, cur, hv, hg, hgg, rest⟩
            · exact .inl hn
            · exact .inr ⟨g, cp, cur, hv, hg, F1.heap hgg (fun e => by
                rw [e, hR9] at hgg
                injection hgg with hgg
                injection hgg with h1 h2
                exact hT h2.symm), rest⟩
          have hB9 : Below w.heap.size w w9 := (HBW7.out.trans (HFq.out.below _ HBW7.out.size (fun k hk e => by omega))).trans (hf.below _ (Nat.le_trans HBW7.out.size HFq.out.size) (fun k hk e => by have := hob _ e; omega))
          have HOUT := Lib.hid (show OfOut w l (.returned (.agg #[.slice ao T.length cpn, .slice oe xs.length ce])) ((w9.setCell ⟨w.heap.size, 0, none⟩ (.slice ao T.length cpn)).setCell ⟨w.heap.size, 1, none⟩ (.slice oe xs.length ce)) from by
            refine ⟨_, _, rfl, ?_, ?_, hB9.trans (F1.below _ hB9.size (fun k hk e => by omega))⟩
            · rw [HNL.out]; exact keep hn9 (by decide)
            · rw [← hls]
              have h := keep hown (by decide)
              refine ⟨h.1, ?_⟩
              rcases h.2 with hn | ⟨g, cp, cur, hv, hg, hgg, rest⟩
              · exact .inl hn
              · exact .inr ⟨g, cp, cur, hv, Nat.le_trans HBW7.out.size hg, hgg, rest⟩)
          clear hp hpw hown hf hls hg9 hRq hR9 hn9 kg0 kf0 kr krf F1 keep hB9 HSO kg hob
          go_wp2_with fail
          refine post_cell 2 29 w.heap.size _ rfl rfl rfl (loadVar_all 29 _ rfl rfl rfl HRF.out) ?_
          exact HOUT.out
        · have hxe : x ∈ es := by
            have : x ∈ (edgeVals es).map (·.1) := List.mem_map.2 ⟨_, hin, rfl⟩
            simpa [edgeVals] using this
          have hxr : x ∈ rem := by
            rcases List.mem_append.1 (hperm.mem_iff.1 hxe) with h | h
            · exact absurd h hnot
            · exact h
          have hp2 : es.Perm ((xs ++ [x]) ++ rem.erase x) := by
            rw [List.append_assoc]
            exact hperm.trans (List.Perm.append_left xs (List.perm_cons_erase hxr))
          have hre : (rem.erase x).length + 1 = rem.length := by
            rw [List.length_erase_of_mem hxr]
            have := List.length_pos_of_mem hxr
            omega
          have HP2 := Lib.hid hp2
          have hg8 : w8.heap[GB]? = some (.cells #[.slice ao T.length cpn, .slice oe xs.length ce] 29 (0, 0)) := hf8.heap HGq.out hGr
          have ho8 : w8.ownsRow w7.heap.size 58 3 (.slice oe xs.length ce) xs.length (flatL encE xs) := by
            refine ⟨HOq.out.1, ?_⟩
            rcases HOq.out.2 with hn | ⟨g, cp, cur, hv, hg, hgg, rest⟩
            · exact .inl hn
            · exact .inr ⟨g, cp, cur, hv, hg, hf8.heap hgg (fun e => by omega), rest⟩
          have hs8 : w7.heap.size ≤ w8.heap.size := Nat.le_trans HFq.out.size hf8.size
          obtain ⟨c, hc⟩ : ∃ c, c = Obj.cells #[.string ⟨x.src.toArray⟩, .string ⟨x.dst.toArray⟩, .int .i64 x.rel] 58 := ⟨_, rfl⟩
          have hnew : ∀ j u, (encE x)[j]? = some u → ∃ b o, (some (⟨(w8.alloc c).heap.size, 0, none⟩ : Addr)) = some ⟨b, o, none⟩ ∧ ((w8.alloc c).alloc c).cell? ⟨b, o + j, none⟩ = some u := fun j u hj => ⟨(w8.alloc c).heap.size, 0, rfl, by
            rw [Nat.zero_add, hc, (rd (heap_alloc_new _ _)).1 j]
            simpa [encE] using hj⟩
          have hob := own_keeps ho8 (((Below.refl w8.heap.size w8).alloc (Nat.le_refl _) c).alloc (by rw [size_alloc]; omega) c)
          obtain ⟨v', w9, hrun, hown9, hgrow⟩ := append_rows w7.heap.size 27 27 58 j0 (.agg #[.string ⟨#[]⟩, .string ⟨#[]⟩, .int .i64 0]) 3 40 Tryz.underlying27 hj0 hjz hj1 hj2 rfl (by decide) _ _ _ hob (some ⟨(w8.alloc c).heap.size, 0, none⟩) 1 1 (encE x) rfl hnew (by intro u hu; simp [encE] at hu; rcases hu with rfl | rfl | rfl <;> rfl) (by unfold maxLen; omega) (by omega) (by rw [size_alloc, size_alloc]; omega)
          obtain ⟨ov, cv, rfl⟩ := ownsRow_form hown9
          rw [size_alloc] at hrun
          have hgb : ((w8.alloc c).alloc c).heap[GB]? = some (.cells #[.slice ao T.length cpn, .slice oe xs.length ce] 29 (0, 0)) := heap_alloc (heap_alloc hg8 c) c
          have hg9 : w9.heap[GB]? = some (.cells #[.slice ao T.length cpn, .slice oe xs.length ce] 29 (0, 0)) := by
            rw [hgrow.block GB (lt_heap hgb) (own_not_box hob hgb (by decide))]; exact hgb
          have F2 : Fr (fun k => k = GB ∨ w7.heap.size ≤ k) w8 w9 := (((Fr.refl _ w8).alloc c).alloc c).grown hgrow (fun k hk hlt => .inr (hob.lt k hk).1)
          have F3 := F2.setCell (p := ⟨GB, 1, none⟩) (fun _ => .inl rfl) (.slice ov (xs.length + 1) cv)
          have HRF := Lib.hid (show RangeOf edgeKey (w9.setCell ⟨GB, 1, none⟩ (.slice ov (xs.length + 1) cv)) r ME (edgeVals es) (xs ++ [x]) from hro8.fr F3 (by omega) (by omega))
          have HGF := Lib.hid (show (w9.setCell ⟨GB, 1, none⟩ (.slice ov (xs.length + 1) cv)).heap[GB]? = some (.cells #[.slice ao T.length cpn, .slice ov (xs.length + 1) cv] 29 (0, 0)) from heap_setCell hg9 1 (.slice ov (xs.length + 1) cv))
          have HFF := Lib.hid (show Fr (fun k => k = r ∨ k = GB) w7 (w9.setCell ⟨GB, 1, none⟩ (.slice ov (xs.length + 1) cv)) from (Fr.then' (Fr.then' HFq.out hf8 (fun i _ h => .inl h)) F3 (fun i hi h => by rcases h with h | h; exact .inr h; omega)))
          have HOF := Lib.hid (show (w9.setCell ⟨GB, 1, none⟩ (.slice ov (xs.length + 1) cv)).ownsRow w7.heap.size 58 3 (.slice ov (xs.length + 1) cv) (xs ++ [x]).length (flatL encE (xs ++ [x])) from by
            have e : flatL encE (xs ++ [x]) = flatL encE xs ++ encE x := by simp [flatL]
            rw [e, List.length_append]
            refine ⟨hown9.1, ?_⟩
            rcases hown9.2 with hn | ⟨g, cp, cur, hv, hg, hgg, rest⟩
            · exact .inl hn
            · exact .inr ⟨g, cp, cur, hv, hg, by rw [heap_other hgg (a := ⟨GB, 1, none⟩) (by intro e; have : g = GB := e; omega)], rest⟩)
          have kg := (rd hg8).1 1
          simp only [List.getElem?_toArray, List.getElem?_cons_zero, List.getElem?_cons_succ] at kg
          have kg9 := (rd hg9).1 1
          have kf9 := (rd hg9).2.1 1
          simp only [List.getElem?_toArray, List.getElem?_cons_zero, List.getElem?_cons_succ] at kg9
          have hen : (Instr.entry (.pointer (some ⟨r, 0, none⟩))).run Tryz.prog w8 = .ok (.tuple #[.agg #[.string ⟨x.src.toArray⟩, .string ⟨x.dst.toArray⟩, .int .i64 x.rel], v]) w8 := hent 0
          have hnx : (Instr.next (.pointer (some ⟨r, 0, none⟩)) false 0).run Tryz.prog wr = .ok (.tuple #[.bool true, .agg #[.string ⟨x.src.toArray⟩, .string ⟨x.dst.toArray⟩, .int .i64 x.rel], v]) w8 := hnx
          have HRUN := Lib.hid hrun
          have hglt := lt_heap hg8
          subst hc
          clear hrun hnew hown9 hgrow F2 F3 hgb hg9 hob ho8 hg8 hro8 hf8 hent hin hnot hp2 hperm hxe hxr
          go_wp2_with (at_builtin; refine wpList_append_run rfl _ _ 27 rfl HRUN.out rfl rfl ?_)
          go_roundg (gk - 1)
          case measure => omega
          case rel => exact ⟨xs ++ [x], rem.erase x, .slice ov (xs.length + 1) cv, HP2.out, by omega, HRF, HGF, HOF, HFF⟩
end Go.Proofs.YtcaamakodneplaaGreat

/-
  Package matinslaw15: what some laid reads as three loaded units.
-/
namespace Go.Proofs.YtcaamakodneplaaGreat
open Go Go.RowKit
set_option linter.unusedVariables false
set_option maxRecDepth 100000

theorem ldOf_len (n : Str) (st : Int) : (ldOf n st).size = 42 := rfl
theorem ldA_len (n : Str) (g : Nat) : (ldA n g).size = 42 := rfl
theorem ldOf_one (n : Str) (st : Int) : ((ldOf n st).all fun v => v.oneCell') = true := by rw [← Array.all_toList]; rfl
theorem ldA_one (n : Str) (g : Nat) : ((ldA n g).all fun v => v.oneCell') = true := by rw [← Array.all_toList]; rfl
theorem ldOf_rd (w : World) (n : Str) (st : Int) (hn : n.length < 4194304) : LdRd w (ldOf n st) ⟨n, st, [], 0, false, [], [], [], [], []⟩ where
  size := rfl
  one := ldOf_one n st
  name := rfl
  state := rfl
  uname := rfl
  ukind := rfl
  dflt := rfl
  rels := ⟨_, rfl, ⟨none, 0, rfl, RowRd.nil _ _ _⟩⟩
  socks := ⟨_, rfl, ⟨none, 0, rfl, StrRow.nil _ _⟩⟩
  unit := rfl
  wants := ⟨_, rfl, ⟨none, 0, rfl, StrRow.nil _ _⟩⟩
  reqs := ⟨_, rfl, ⟨none, 0, rfl, StrRow.nil _ _⟩⟩
  small := ⟨hn, by simp, by simp, by simp, by simp, by simp, by simp, by simp, by simp, by simp, by simp⟩
theorem ldA_rd (w : World) (n r : Str) (g : Nat) (hg : w.heap[g]? = some (.cells #[.int .i64 6, .string ⟨r.toArray⟩] 56 (0, 0))) (hn : n.length < 4194304) (hr : r.length < 4194304) : LdRd w (ldA n g) ⟨n, 1, n, 1, true, [⟨6, r⟩], [], [], [], []⟩ where
  size := rfl
  one := ldA_one n g
  name := rfl
  state := rfl
  uname := rfl
  ukind := rfl
  dflt := rfl
  rels := ⟨_, rfl, ⟨some ⟨g, 0, none⟩, 1, rfl, by
    intro i hi
    obtain rfl : i = 0 := by simp at hi; omega
    refine ⟨g, 0, rfl, lt_heap hg, fun j v hj => ?_⟩
    simp only [Nat.zero_mul, Nat.zero_add]; rw [(rd hg).1 j]
    simpa [encR] using hj⟩⟩
  socks := ⟨_, rfl, ⟨none, 0, rfl, StrRow.nil _ _⟩⟩
  unit := rfl
  wants := ⟨_, rfl, ⟨none, 0, rfl, StrRow.nil _ _⟩⟩
  reqs := ⟨_, rfl, ⟨none, 0, rfl, StrRow.nil _ _⟩⟩
  small := ⟨hn, hn, by simp, by simp, by simp, by simp, by simp, by simpa using hr, by simp, by simp, by simp⟩
theorem part3 {a b c : Array Value} (ha : a.size = 42) (hb : b.size = 42) (j : Nat) (v : Value) : (a[j]? = some v → (a.toList ++ (b.toList ++ c.toList)).toArray[j]? = some v) ∧ (b[j]? = some v → (a.toList ++ (b.toList ++ c.toList)).toArray[42 + j]? = some v) ∧ (c[j]? = some v → (a.toList ++ (b.toList ++ c.toList)).toArray[84 + j]? = some v) := by
  obtain ⟨a⟩ := a; obtain ⟨b⟩ := b; obtain ⟨c⟩ := c
  simp only [List.size_toArray] at ha hb
  simp only [List.getElem?_toArray]
  refine ⟨fun h => ?_, fun h => ?_, fun h => ?_⟩
  · have := (List.getElem?_eq_some_iff.1 h).1
    rw [List.getElem?_append_left this]; exact h
  · have hj := (List.getElem?_eq_some_iff.1 h).1
    rw [List.getElem?_append_right (by omega), List.getElem?_append_left (by omega), ← h]
    congr 1; omega
  · rw [List.getElem?_append_right (by omega), List.getElem?_append_right (by omega), ← h]
    congr 1; omega
theorem some_lds {w : World} {G g : Nat} (hG : w.heap[G]? = some (.cells (ld3 sB sA sFirst 2 2 g) 53 (0, 0))) (hg : w.heap[g]? = some (.cells #[.int .i64 6, .string ⟨sB.toArray⟩] 56 (0, 0))) : LdsRd w (some ⟨G, 0, none⟩) someL := by
  intro i hi
  have hp := fun j v => part3 (c := ldOf sFirst 2) (ldOf_len sB 2) (ldA_len sA g) j v
  have hc := (rd hG).1
  have hlt := lt_heap hG
  match i, hi with
  | 0, _ => exact ⟨G, 0, ldOf sB 2, rfl, hlt, fun j v hj => by simp only [Nat.zero_mul, Nat.zero_add]; rw [hc]; exact (hp j v).1 hj, ldOf_rd w sB 2 (by decide)⟩
  | 1, _ => exact ⟨G, 0, ldA sA g, rfl, hlt, fun j v hj => by rw [Nat.one_mul, Nat.zero_add, hc]; exact (hp j v).2.1 hj, ldA_rd w sA sB g hg (by decide) (by decide)⟩
  | 2, _ => exact ⟨G, 0, ldOf sFirst 2, rfl, hlt, fun j v hj => by rw [show 2 * 42 = 84 from rfl, Nat.zero_add, hc]; exact (hp j v).2.2 hj, ldOf_rd w sFirst 2 (by decide)⟩
end Go.Proofs.YtcaamakodneplaaGreat

/-
  Package graph: mayNode, May.
-/
namespace Go.Proofs.YtcaamakodneplaaGreat
open Go Go.RowKit Go.Sort
set_option linter.unusedVariables false
set_option maxRecDepth 100000

def NodeSmall (x : NodeS) : Prop := x.name.length < 4294967281

set_option maxHeartbeats 1000000 in
theorem mayNode_c1 (x : NodeS) (w : World) (hm : MaxAt w) (hs : NodeSmall x) (h1 : kindS x.name = 0) :
    Calls Tryz.prog 40 #[.agg #[.string ⟨x.name.toArray⟩, .int .i64 x.kind, .int .i64 x.state]] w fun e w' => e = .returned (.bool false) ∧ Below w.heap.size w w' := by
  have hsz : (⟨x.name.toArray⟩ : ByteArray).size < 4294967281 := by show x.name.toArray.size < _; simpa [NodeSmall] using hs
  have hB : Below w.heap.size w (w.alloc (.cells #[.string ⟨x.name.toArray⟩, .int .i64 x.kind, .int .i64 x.state] 32)) := (Below.refl _ _).alloc (Nat.le_refl _) _
  obtain ⟨bc, -, -, blt⟩ := rd (heap_alloc_new w (.cells #[.string ⟨x.name.toArray⟩, .int .i64 x.kind, .int .i64 x.state] 32))
  have g0 := bc 0; have g1 := bc 1; have g2 := bc 2
  simp only [List.getElem?_toArray, List.getElem?_cons_zero, List.getElem?_cons_succ] at g0 g1 g2
  clear bc
  have hm1 := hm.below hB
  have HM := Lib.hid (fun W' (h : MaxAt W') => may_any ⟨x.name.toArray⟩ W' hsz h false (by simpa using h1))
  have HK := Lib.hid (fun W' (h : MaxAt W') => kind_any ⟨x.name.toArray⟩ W' hsz h (kindS x.name) rfl)
  have HB := Lib.hid hB; clear hB
  go_enter Tryz.func40, Tryz.ntmps40
  go_wp2_with fail
  generalize w.alloc (.cells #[.string ⟨x.name.toArray⟩, .int .i64 x.kind, .int .i64 x.state] 32) = w1 at *
  generalize hRn : w.heap.size = R at *
  have HRn := Lib.hid hRn; clear hRn
  have k0 := cell_regrown g0
  have k1 := cell_regrown g1
  have k2 := cell_regrown g2
  have cM : ∀ d os, Calls Tryz.prog 47 #[.string ⟨x.name.toArray⟩] (grow (redrawn w1 d) os) fun e w'' => e = .returned (.bool false) ∧ ∃ p : Regrown, w'' = grow (redrawn w1 p.d) p.os := fun d os => Calls.regrown_of (HM.out _ (hm1.below (below_regrown w1 d os)))
  have cK : ∀ d os, Calls Tryz.prog 48 #[.string ⟨x.name.toArray⟩] (grow (redrawn w1 d) os) fun e w'' => e = .returned (.int .i64 (kindS x.name)) ∧ ∃ p : Regrown, w'' = grow (redrawn w1 p.d) p.os := fun d os => Calls.regrown_of (HK.out _ (hm1.below (below_regrown w1 d os)))
  generalize kindS x.name = kd at *
  clear h1
  refine wp_region_quiet_below (by kernel_rfl) (by kernel_rfl) ?_
  repeat (go_big_quiet_step (first | exact cM _ _ | exact cK _ _))
  refine wpQuiet_nil ?_
  intro _ hw'
  obtain ⟨⟨dq, osq⟩, hw''⟩ := hw'
  subst hw''
  have Hb2 := Lib.hid (below_regrown w1 dq osq)
  clear k0 k1 k2 cM cK
  generalize grow (redrawn w1 dq) osq = w2 at *
  go_wp2_with fail
  go_ret
  refine ⟨rfl, ?_⟩
  rw [HRn.out]
  exact HB.out.trans (Hb2.out.mono (by have := HB.out.size; rw [HRn.out] at this; exact this))

set_option maxHeartbeats 1000000 in
theorem mayNode_c2 (x : NodeS) (w : World) (hm : MaxAt w) (hs : NodeSmall x) (h1 : kindS x.name ≠ 0) (h2 : (x.kind == (kindS x.name : Int)) = false) :
    Calls Tryz.prog 40 #[.agg #[.string ⟨x.name.toArray⟩, .int .i64 x.kind, .int .i64 x.state]] w fun e w' => e = .returned (.bool false) ∧ Below w.heap.size w w' := by
  have hsz : (⟨x.name.toArray⟩ : ByteArray).size < 4294967281 := by show x.name.toArray.size < _; simpa [NodeSmall] using hs
  have hB : Below w.heap.size w (w.alloc (.cells #[.string ⟨x.name.toArray⟩, .int .i64 x.kind, .int .i64 x.state] 32)) := (Below.refl _ _).alloc (Nat.le_refl _) _
  obtain ⟨bc, -, -, blt⟩ := rd (heap_alloc_new w (.cells #[.string ⟨x.name.toArray⟩, .int .i64 x.kind, .int .i64 x.state] 32))
  have g0 := bc 0; have g1 := bc 1; have g2 := bc 2
  simp only [List.getElem?_toArray, List.getElem?_cons_zero, List.getElem?_cons_succ] at g0 g1 g2
  clear bc
  have hm1 := hm.below hB
  have HM := Lib.hid (fun W' (h : MaxAt W') => may_any ⟨x.name.toArray⟩ W' hsz h true (by simpa using h1))
  have HK := Lib.hid (fun W' (h : MaxAt W') => kind_any ⟨x.name.toArray⟩ W' hsz h (kindS x.name) rfl)
  have HB := Lib.hid hB; clear hB
  go_enter Tryz.func40, Tryz.ntmps40
  go_wp2_with fail
  generalize w.alloc (.cells #[.string ⟨x.name.toArray⟩, .int .i64 x.kind, .int .i64 x.state] 32) = w1 at *
  generalize hRn : w.heap.size = R at *
  have HRn := Lib.hid hRn; clear hRn
  have k0 := cell_regrown g0
  have k1 := cell_regrown g1
  have k2 := cell_regrown g2
  have cM : ∀ d os, Calls Tryz.prog 47 #[.string ⟨x.name.toArray⟩] (grow (redrawn w1 d) os) fun e w'' => e = .returned (.bool true) ∧ ∃ p : Regrown, w'' = grow (redrawn w1 p.d) p.os := fun d os => Calls.regrown_of (HM.out _ (hm1.below (below_regrown w1 d os)))
  have cK : ∀ d os, Calls Tryz.prog 48 #[.string ⟨x.name.toArray⟩] (grow (redrawn w1 d) os) fun e w'' => e = .returned (.int .i64 (kindS x.name)) ∧ ∃ p : Regrown, w'' = grow (redrawn w1 p.d) p.os := fun d os => Calls.regrown_of (HK.out _ (hm1.below (below_regrown w1 d os)))
  generalize kindS x.name = kd at *
  clear h1
  refine wp_region_quiet_below (by kernel_rfl) (by kernel_rfl) ?_
  repeat (go_big_quiet_step (first | exact cM _ _ | exact cK _ _))
  refine wpQuiet_nil ?_
  intro _ hw'
  obtain ⟨⟨dq, osq⟩, hw''⟩ := hw'
  subst hw''
  have Hb2 := Lib.hid (below_regrown w1 dq osq)
  clear k0 k1 k2 cM cK
  generalize grow (redrawn w1 dq) osq = w2 at *
  go_wp2_with fail
  go_ret
  refine ⟨rfl, ?_⟩
  rw [HRn.out]
  exact HB.out.trans (Hb2.out.mono (by have := HB.out.size; rw [HRn.out] at this; exact this))

set_option maxHeartbeats 1000000 in
theorem mayNode_c3 (x : NodeS) (w : World) (hm : MaxAt w) (hs : NodeSmall x) (h1 : kindS x.name ≠ 0) (h2 : (x.kind == (kindS x.name : Int)) = true) (h3 : decide (1 ≤ x.state) = false) :
    Calls Tryz.prog 40 #[.agg #[.string ⟨x.name.toArray⟩, .int .i64 x.kind, .int .i64 x.state]] w fun e w' => e = .returned (.bool false) ∧ Below w.heap.size w w' := by
  have hsz : (⟨x.name.toArray⟩ : ByteArray).size < 4294967281 := by show x.name.toArray.size < _; simpa [NodeSmall] using hs
  have hB : Below w.heap.size w (w.alloc (.cells #[.string ⟨x.name.toArray⟩, .int .i64 x.kind, .int .i64 x.state] 32)) := (Below.refl _ _).alloc (Nat.le_refl _) _
  obtain ⟨bc, -, -, blt⟩ := rd (heap_alloc_new w (.cells #[.string ⟨x.name.toArray⟩, .int .i64 x.kind, .int .i64 x.state] 32))
  have g0 := bc 0; have g1 := bc 1; have g2 := bc 2
  simp only [List.getElem?_toArray, List.getElem?_cons_zero, List.getElem?_cons_succ] at g0 g1 g2
  clear bc
  have hm1 := hm.below hB
  have HM := Lib.hid (fun W' (h : MaxAt W') => may_any ⟨x.name.toArray⟩ W' hsz h true (by simpa using h1))
  have HK := Lib.hid (fun W' (h : MaxAt W') => kind_any ⟨x.name.toArray⟩ W' hsz h (kindS x.name) rfl)
  have HB := Lib.hid hB; clear hB
  go_enter Tryz.func40, Tryz.ntmps40
  go_wp2_with fail
  generalize w.alloc (.cells #[.string ⟨x.name.toArray⟩, .int .i64 x.kind, .int .i64 x.state] 32) = w1 at *
  generalize hRn : w.heap.size = R at *
  have HRn := Lib.hid hRn; clear hRn
  have k0 := cell_regrown g0
  have k1 := cell_regrown g1
  have k2 := cell_regrown g2
  have cM : ∀ d os, Calls Tryz.prog 47 #[.string ⟨x.name.toArray⟩] (grow (redrawn w1 d) os) fun e w'' => e = .returned (.bool true) ∧ ∃ p : Regrown, w'' = grow (redrawn w1 p.d) p.os := fun d os => Calls.regrown_of (HM.out _ (hm1.below (below_regrown w1 d os)))
  have cK : ∀ d os, Calls Tryz.prog 48 #[.string ⟨x.name.toArray⟩] (grow (redrawn w1 d) os) fun e w'' => e = .returned (.int .i64 (kindS x.name)) ∧ ∃ p : Regrown, w'' = grow (redrawn w1 p.d) p.os := fun d os => Calls.regrown_of (HK.out _ (hm1.below (below_regrown w1 d os)))
  generalize kindS x.name = kd at *
  clear h1
  refine wp_region_quiet_below (by kernel_rfl) (by kernel_rfl) ?_
  repeat (go_big_quiet_step (first | exact cM _ _ | exact cK _ _))
  refine wpQuiet_nil ?_
  intro _ hw'
  obtain ⟨⟨dq, osq⟩, hw''⟩ := hw'
  subst hw''
  have Hb2 := Lib.hid (below_regrown w1 dq osq)
  clear k0 k1 k2 cM cK
  generalize grow (redrawn w1 dq) osq = w2 at *
  go_wp2_with fail
  go_ret
  refine ⟨rfl, ?_⟩
  rw [HRn.out]
  exact HB.out.trans (Hb2.out.mono (by have := HB.out.size; rw [HRn.out] at this; exact this))

set_option maxHeartbeats 1000000 in
theorem mayNode_c4 (x : NodeS) (w : World) (hm : MaxAt w) (hs : NodeSmall x) (h1 : kindS x.name ≠ 0) (h2 : (x.kind == (kindS x.name : Int)) = true) (h3 : decide (1 ≤ x.state) = true) (h4 : decide (x.state ≤ 4) = false) :
    Calls Tryz.prog 40 #[.agg #[.string ⟨x.name.toArray⟩, .int .i64 x.kind, .int .i64 x.state]] w fun e w' => e = .returned (.bool false) ∧ Below w.heap.size w w' := by
  have hsz : (⟨x.name.toArray⟩ : ByteArray).size < 4294967281 := by show x.name.toArray.size < _; simpa [NodeSmall] using hs
  have hB : Below w.heap.size w (w.alloc (.cells #[.string ⟨x.name.toArray⟩, .int .i64 x.kind, .int .i64 x.state] 32)) := (Below.refl _ _).alloc (Nat.le_refl _) _
  obtain ⟨bc, -, -, blt⟩ := rd (heap_alloc_new w (.cells #[.string ⟨x.name.toArray⟩, .int .i64 x.kind, .int .i64 x.state] 32))
  have g0 := bc 0; have g1 := bc 1; have g2 := bc 2
  simp only [List.getElem?_toArray, List.getElem?_cons_zero, List.getElem?_cons_succ] at g0 g1 g2
  clear bc
  have hm1 := hm.below hB
  have HM := Lib.hid (fun W' (h : MaxAt W') => may_any ⟨x.name.toArray⟩ W' hsz h true (by simpa using h1))
  have HK := Lib.hid (fun W' (h : MaxAt W') => kind_any ⟨x.name.toArray⟩ W' hsz h (kindS x.name) rfl)
  have HB := Lib.hid hB; clear hB
  go_enter Tryz.func40, Tryz.ntmps40
  go_wp2_with fail
  generalize w.alloc (.cells #[.string ⟨x.name.toArray⟩, .int .i64 x.kind, .int .i64 x.state] 32) = w1 at *
  generalize hRn : w.heap.size = R at *
  have HRn := Lib.hid hRn; clear hRn
  have k0 := cell_regrown g0
  have k1 := cell_regrown g1
  have k2 := cell_regrown g2
  have cM : ∀ d os, Calls Tryz.prog 47 #[.string ⟨x.name.toArray⟩] (grow (redrawn w1 d) os) fun e w'' => e = .returned (.bool true) ∧ ∃ p : Regrown, w'' = grow (redrawn w1 p.d) p.os := fun d os => Calls.regrown_of (HM.out _ (hm1.below (below_regrown w1 d os)))
  have cK : ∀ d os, Calls Tryz.prog 48 #[.string ⟨x.name.toArray⟩] (grow (redrawn w1 d) os) fun e w'' => e = .returned (.int .i64 (kindS x.name)) ∧ ∃ p : Regrown, w'' = grow (redrawn w1 p.d) p.os := fun d os => Calls.regrown_of (HK.out _ (hm1.below (below_regrown w1 d os)))
  generalize kindS x.name = kd at *
  clear h1
  have h3' : 1 ≤ x.state := of_decide_eq_true h3
  refine wp_region_quiet_below (by kernel_rfl) (by kernel_rfl) ?_
  repeat (go_big_quiet_step (first | exact cM _ _ | exact cK _ _))
  refine wpQuiet_nil ?_
  intro _ hw'
  obtain ⟨⟨dq, osq⟩, hw''⟩ := hw'
  subst hw''
  have Hb2 := Lib.hid (below_regrown w1 dq osq)
  clear k0 k1 k2 cM cK
  generalize grow (redrawn w1 dq) osq = w2 at *
  go_wp2_with fail
  go_ret
  refine ⟨rfl, ?_⟩
  rw [HRn.out]
  exact HB.out.trans (Hb2.out.mono (by have := HB.out.size; rw [HRn.out] at this; exact this))

set_option maxHeartbeats 1000000 in
theorem mayNode_c5 (x : NodeS) (w : World) (hm : MaxAt w) (hs : NodeSmall x) (h1 : kindS x.name ≠ 0) (h2 : (x.kind == (kindS x.name : Int)) = true) (h3 : decide (1 ≤ x.state) = true) (h4 : decide (x.state ≤ 4) = true) :
    Calls Tryz.prog 40 #[.agg #[.string ⟨x.name.toArray⟩, .int .i64 x.kind, .int .i64 x.state]] w fun e w' => e = .returned (.bool true) ∧ Below w.heap.size w w' := by
  have hsz : (⟨x.name.toArray⟩ : ByteArray).size < 4294967281 := by show x.name.toArray.size < _; simpa [NodeSmall] using hs
  have hB : Below w.heap.size w (w.alloc (.cells #[.string ⟨x.name.toArray⟩, .int .i64 x.kind, .int .i64 x.state] 32)) := (Below.refl _ _).alloc (Nat.le_refl _) _
  obtain ⟨bc, -, -, blt⟩ := rd (heap_alloc_new w (.cells #[.string ⟨x.name.toArray⟩, .int .i64 x.kind, .int .i64 x.state] 32))
  have g0 := bc 0; have g1 := bc 1; have g2 := bc 2
  simp only [List.getElem?_toArray, List.getElem?_cons_zero, List.getElem?_cons_succ] at g0 g1 g2
  clear bc
  have hm1 := hm.below hB
  have HM := Lib.hid (fun W' (h : MaxAt W') => may_any ⟨x.name.toArray⟩ W' hsz h true (by simpa using h1))
  have HK := Lib.hid (fun W' (h : MaxAt W') => kind_any ⟨x.name.toArray⟩ W' hsz h (kindS x.name) rfl)
  have HB := Lib.hid hB; clear hB
  go_enter Tryz.func40, Tryz.ntmps40
  go_wp2_with fail
  generalize w.alloc (.cells #[.string ⟨x.name.toArray⟩, .int .i64 x.kind, .int .i64 x.state] 32) = w1 at *
  generalize hRn : w.heap.size = R at *
  have HRn := Lib.hid hRn; clear hRn
  have k0 := cell_regrown g0
  have k1 := cell_regrown g1
  have k2 := cell_regrown g2
  have cM : ∀ d os, Calls Tryz.prog 47 #[.string ⟨x.name.toArray⟩] (grow (redrawn w1 d) os) fun e w'' => e = .returned (.bool true) ∧ ∃ p : Regrown, w'' = grow (redrawn w1 p.d) p.os := fun d os => Calls.regrown_of (HM.out _ (hm1.below (below_regrown w1 d os)))
  have cK : ∀ d os, Calls Tryz.prog 48 #[.string ⟨x.name.toArray⟩] (grow (redrawn w1 d) os) fun e w'' => e = .returned (.int .i64 (kindS x.name)) ∧ ∃ p : Regrown, w'' = grow (redrawn w1 p.d) p.os := fun d os => Calls.regrown_of (HK.out _ (hm1.below (below_regrown w1 d os)))
  generalize kindS x.name = kd at *
  clear h1
  refine wp_region_quiet_below (by kernel_rfl) (by kernel_rfl) ?_
  repeat (go_big_quiet_step (first | exact cM _ _ | exact cK _ _))
  refine wpQuiet_nil ?_
  intro _ hw'
  obtain ⟨⟨dq, osq⟩, hw''⟩ := hw'
  subst hw''
  have Hb2 := Lib.hid (below_regrown w1 dq osq)
  clear k0 k1 k2 cM cK
  generalize grow (redrawn w1 dq) osq = w2 at *
  go_wp2_with fail
  go_ret
  refine ⟨rfl, ?_⟩
  rw [HRn.out]
  exact HB.out.trans (Hb2.out.mono (by have := HB.out.size; rw [HRn.out] at this; exact this))

theorem mayNode_any (x : NodeS) (w : World) (hm : MaxAt w) (hs : NodeSmall x) (r : Bool) (hr : mayNodeS x = r) :
    Calls Tryz.prog 40 #[.agg #[.string ⟨x.name.toArray⟩, .int .i64 x.kind, .int .i64 x.state]] w fun e w' => e = .returned (.bool r) ∧ Below w.heap.size w w' := by
  subst hr
  unfold mayNodeS
  by_cases h1 : kindS x.name = 0
  · rw [h1]; exact mayNode_c1 x w hm hs h1
  have e1 : (kindS x.name != 0) = true := by simpa using h1
  rw [e1]
  cases h2 : (x.kind == (kindS x.name : Int)) with
  | false => exact mayNode_c2 x w hm hs h1 h2
  | true =>
    cases h3 : decide (1 ≤ x.state) with
    | false => exact mayNode_c3 x w hm hs h1 h2 h3
    | true =>
      cases h4 : decide (x.state ≤ 4) with
      | false => exact mayNode_c4 x w hm hs h1 h2 h3 h4
      | true => exact mayNode_c5 x w hm hs h1 h2 h3 h4
end Go.Proofs.YtcaamakodneplaaGreat

/-
  Package graph: May.
-/
namespace Go.Proofs.YtcaamakodneplaaGreat
open Go Go.RowKit Go.Sort
set_option linter.unusedVariables false
set_option maxRecDepth 100000

theorem take_all_snoc {α : Type} (p : α → Bool) (l : List α) (k : Nat) (h : k < l.length) (ha : (l.take k).all p = true) (hp : p l[k] = true) : (l.take (k + 1)).all p = true := by
  rw [List.take_succ_eq_append_getElem h, List.all_append, ha]; simp [hp]
theorem all_no {α : Type} (p : α → Bool) (l : List α) (k : Nat) (h : k < l.length) (hp : p l[k] = false) : l.all p = false := by
  rw [List.all_eq_false]; exact ⟨l[k], List.getElem_mem _, by simp [hp]⟩

/-- What the walk of May knows of the world in which its argument has been laid. -/
structure GIn (w w1 : World) (on oe : Option Addr) (cn ce : Nat) (ns : List NodeS) (es : List EdgeS) : Prop where
  below : Below w.heap.size w w1
  box : w1.heap[w.heap.size]? = some (.cells #[.slice on ns.length cn, .slice oe es.length ce] 29 (0, 0))
  nodes : RowRd encN 3 w1 on ns
  edges : RowRd encE 3 w1 oe es
  max : MaxAt w1
theorem GIn.more {w w1 w2 : World} {on oe : Option Addr} {cn ce : Nat} {ns : List NodeS} {es : List EdgeS} (h : GIn w w1 on oe cn ce ns es) (hb : Below w1.heap.size w1 w2) : GIn w w2 on oe cn ce ns es :=
  ⟨Below.more h.below hb, (hb.block _ (lt_heap h.box)).trans h.box, h.nodes.below hb, h.edges.below hb, h.max.below hb⟩
theorem GIn.cells {w w1 : World} {on oe : Option Addr} {cn ce : Nat} {ns : List NodeS} {es : List EdgeS} (h : GIn w w1 on oe cn ce ns es) :
    w1.cell? ⟨w.heap.size, 0, none⟩ = some (.slice on ns.length cn) ∧ w1.cell? ⟨w.heap.size, 1, none⟩ = some (.slice oe es.length ce) ∧ w.heap.size < w1.heap.size :=
  ⟨(rd h.box).1 0, (rd h.box).1 1, lt_heap h.box⟩
/-- A block laid behind. -/
theorem GIn.alloc {w w1 : World} {on oe : Option Addr} {cn ce : Nat} {ns : List NodeS} {es : List EdgeS} (h : GIn w w1 on oe cn ce ns es) (o : Obj) : GIn w (w1.alloc o) on oe cn ce ns es :=
  h.more ((Below.refl _ _).alloc (Nat.le_refl _) o)

theorem edge_cases (ns : List NodeS) (e : EdgeS) : (nodeOf ns e.src = none ∧ mayEdgeS ns e = false) ∨ ∃ a, nodeOf ns e.src = some a ∧ ((nodeOf ns e.dst = none ∧ mayEdgeS ns e = false) ∨ ∃ b, nodeOf ns e.dst = some b ∧
    ((e.src = e.dst ∧ mayEdgeS ns e = false) ∨ (e.src ≠ e.dst ∧ ((a.state == 1) = false ∧ mayEdgeS ns e = false ∨ (a.state == 1) = true ∧
      (e.rel < 1 ∧ mayEdgeS ns e = false ∨ 1 ≤ e.rel ∧ (10 < e.rel ∧ mayEdgeS ns e = false ∨ e.rel ≤ 10 ∧ mayEdgeS ns e = true)))))) := by
  unfold mayEdgeS
  cases h1 : nodeOf ns e.src with
  | none => exact .inl ⟨rfl, rfl⟩
  | some a =>
    refine .inr ⟨a, rfl, ?_⟩
    cases h2 : nodeOf ns e.dst with
    | none => exact .inl ⟨rfl, by simp⟩
    | some b =>
      refine .inr ⟨b, rfl, ?_⟩
      by_cases h3 : e.src = e.dst
      · exact .inl ⟨h3, by simp [h3]⟩
      · refine .inr ⟨h3, ?_⟩
        cases h4 : (a.state == 1) with
        | false => exact .inl ⟨rfl, by simp [h4]⟩
        | true =>
          refine .inr ⟨rfl, ?_⟩
          by_cases h5 : e.rel < 1
          · exact .inl ⟨h5, by simp; intro _; omega⟩
          · refine .inr ⟨by omega, ?_⟩
            by_cases h6 : 10 < e.rel
            · exact .inl ⟨h6, by simp; intro _; omega⟩
            · exact .inr ⟨by omega, by have := eq_of_beq h4; simp [h3, this]; omega⟩

set_option maxHeartbeats 2000000 in
theorem may_long (on oe : Option Addr) (cn ce : Nat) (ns : List NodeS) (es : List EdgeS) (w : World) (hm : MaxAt w) (hn : RowRd encN 3 w on ns) (he : RowRd encE 3 w oe es) (hln : ns.length < 1073741824) (hle : es.length < 1073741824)
    (hs : ∀ x ∈ ns, NodeSmall x) (h64 : 64 < ns.length) :
    Calls Tryz.prog 16 #[.agg #[.slice on ns.length cn, .slice oe es.length ce]] w fun e w' => e = .returned (.bool false) ∧ Below w.heap.size w w' := by
  have hB : Below w.heap.size w (w.alloc (.cells #[.slice on ns.length cn, .slice oe es.length ce] 29)) := (Below.refl _ _).alloc (Nat.le_refl _) _
  have hG : GIn w (w.alloc (.cells #[.slice on ns.length cn, .slice oe es.length ce] 29)) on oe cn ce ns es := ⟨hB, heap_alloc_new w _, hn.below hB, he.below hB, hm.below hB⟩
  have HS := Lib.hid hs
  clear hs hm hn he hB
  go_enter Tryz.func16, Tryz.ntmps16
  go_wp2_with fail
  generalize w.alloc (.cells #[.slice on ns.length cn, .slice oe es.length ce] 29) = w1 at *
  obtain ⟨c0, c1, hlt1⟩ := hG.cells
  have HG := Lib.hid hG; clear hG
  go_wp2_with fail
  go_ret
  exact ⟨rfl, HG.out.below⟩

set_option maxHeartbeats 2000000 in
theorem may_nodes (on oe : Option Addr) (cn ce : Nat) (ns : List NodeS) (es : List EdgeS) (w : World) (hm : MaxAt w) (hn : RowRd encN 3 w on ns) (he : RowRd encE 3 w oe es) (hln : ns.length < 1073741824) (hle : es.length < 1073741824)
    (hs : ∀ x ∈ ns, NodeSmall x) (h64 : ns.length ≤ 64) (h1 : risesB ltN ns = false) :
    Calls Tryz.prog 16 #[.agg #[.slice on ns.length cn, .slice oe es.length ce]] w fun e w' => e = .returned (.bool false) ∧ Below w.heap.size w w' := by
  have hB : Below w.heap.size w (w.alloc (.cells #[.slice on ns.length cn, .slice oe es.length ce] 29)) := (Below.refl _ _).alloc (Nat.le_refl _) _
  have hG : GIn w (w.alloc (.cells #[.slice on ns.length cn, .slice oe es.length ce] 29)) on oe cn ce ns es := ⟨hB, heap_alloc_new w _, hn.below hB, he.below hB, hm.below hB⟩
  have HS := Lib.hid hs
  have H1 := Lib.hid h1; clear h1
  clear hs hm hn he hB
  go_enter Tryz.func16, Tryz.ntmps16
  go_wp2_with fail
  generalize w.alloc (.cells #[.slice on ns.length cn, .slice oe es.length ce] 29) = w1 at *
  obtain ⟨c0, c1, hlt1⟩ := hG.cells
  have HG := Lib.hid hG; clear hG
  go_wp2_with fail
  refine (risesN_any on cn ns w1 HG.out.nodes (by omega) false H1.out).mono ?_
  rintro e w2 ⟨rfl, hb2⟩
  have HG2 := Lib.hid (HG.out.more hb2)
  obtain ⟨d0, d1, hlt2⟩ := HG2.out.cells
  clear hb2
  go_wp2_with fail
  go_ret
  exact ⟨rfl, HG2.out.below⟩

set_option maxHeartbeats 2000000 in
theorem may_edges (on oe : Option Addr) (cn ce : Nat) (ns : List NodeS) (es : List EdgeS) (w : World) (hm : MaxAt w) (hn : RowRd encN 3 w on ns) (he : RowRd encE 3 w oe es) (hln : ns.length < 1073741824) (hle : es.length < 1073741824)
    (hs : ∀ x ∈ ns, NodeSmall x) (h64 : ns.length ≤ 64) (h1 : risesB ltN ns = true) (h2 : risesB ltE es = false) :
    Calls Tryz.prog 16 #[.agg #[.slice on ns.length cn, .slice oe es.length ce]] w fun e w' => e = .returned (.bool false) ∧ Below w.heap.size w w' := by
  have hB : Below w.heap.size w (w.alloc (.cells #[.slice on ns.length cn, .slice oe es.length ce] 29)) := (Below.refl _ _).alloc (Nat.le_refl _) _
  have hG : GIn w (w.alloc (.cells #[.slice on ns.length cn, .slice oe es.length ce] 29)) on oe cn ce ns es := ⟨hB, heap_alloc_new w _, hn.below hB, he.below hB, hm.below hB⟩
  have HS := Lib.hid hs
  have H1 := Lib.hid h1; clear h1
  have H2 := Lib.hid h2; clear h2
  clear hs hm hn he hB
  go_enter Tryz.func16, Tryz.ntmps16
  go_wp2_with fail
  generalize w.alloc (.cells #[.slice on ns.length cn, .slice oe es.length ce] 29) = w1 at *
  obtain ⟨c0, c1, hlt1⟩ := hG.cells
  have HG := Lib.hid hG; clear hG
  go_wp2_with fail
  refine (risesN_any on cn ns w1 HG.out.nodes (by omega) true H1.out).mono ?_
  rintro e w2 ⟨rfl, hb2⟩
  have HG2 := Lib.hid (HG.out.more hb2)
  obtain ⟨d0, d1, hlt2⟩ := HG2.out.cells
  clear hb2
  go_wp2_with fail
  refine (risesE_any oe ce es w2 HG2.out.edges (by omega) false H2.out).mono ?_
  rintro e w3 ⟨rfl, hb3⟩
  have HG3 := Lib.hid (HG2.out.more hb3)
  obtain ⟨e0, e1, hlt3⟩ := HG3.out.cells
  clear hb3
  go_wp2_with fail
  go_ret
  exact ⟨rfl, HG3.out.below⟩

set_option maxHeartbeats 2000000 in
theorem may_rest (on oe : Option Addr) (cn ce : Nat) (ns : List NodeS) (es : List EdgeS) (w : World) (hm : MaxAt w) (hn : RowRd encN 3 w on ns) (he : RowRd encE 3 w oe es) (hln : ns.length < 1073741824) (hle : es.length < 1073741824)
    (hs : ∀ x ∈ ns, NodeSmall x) (h64 : ns.length ≤ 64) (h1 : risesB ltN ns = true) (h2 : risesB ltE es = true) (r : Bool) (hr : (ns.all mayNodeS && es.all (mayEdgeS ns)) = r) :
    Calls Tryz.prog 16 #[.agg #[.slice on ns.length cn, .slice oe es.length ce]] w fun e w' => e = .returned (.bool r) ∧ Below w.heap.size w w' := by
  have hB : Below w.heap.size w (w.alloc (.cells #[.slice on ns.length cn, .slice oe es.length ce] 29)) := (Below.refl _ _).alloc (Nat.le_refl _) _
  have hG : GIn w (w.alloc (.cells #[.slice on ns.length cn, .slice oe es.length ce] 29)) on oe cn ce ns es := ⟨hB, heap_alloc_new w _, hn.below hB, he.below hB, hm.below hB⟩
  have HS := Lib.hid hs
  have H1 := Lib.hid h1; clear h1
  have H2 := Lib.hid h2; clear h2
  have HR := Lib.hid hr; clear hr
  clear hs hm hn he hB
  go_enter Tryz.func16, Tryz.ntmps16
  go_wp2_with fail
  generalize w.alloc (.cells #[.slice on ns.length cn, .slice oe es.length ce] 29) = w1 at *
  obtain ⟨c0, c1, hlt1⟩ := hG.cells
  have HG := Lib.hid hG; clear hG
  go_wp2_with fail
  refine (risesN_any on cn ns w1 HG.out.nodes (by omega) true H1.out).mono ?_
  rintro e w2 ⟨rfl, hb2⟩
  have HG2 := Lib.hid (HG.out.more hb2)
  obtain ⟨d0, d1, hlt2⟩ := HG2.out.cells
  clear hb2
  go_wp2_with fail
  refine (risesE_any oe ce es w2 HG2.out.edges (by omega) true H2.out).mono ?_
  rintro e w3 ⟨rfl, hb3⟩
  have HG3 := Lib.hid (HG2.out.more hb3)
  obtain ⟨e0, e1, hlt3⟩ := HG3.out.cells
  clear hb3
  go_wp2_with fail
  clear c0 c1 d0 d1 hlt1 hlt2 HG HG2 H1 H2
  go_loopg [30] (ns.length + 1) (fun f i wr => ∃ k : Nat, k ≤ ns.length ∧ i = .int .i64 k ∧ ns.length - k < f ∧ Hid ((ns.take k).all mayNodeS = true) ∧ Hid (GIn w wr on oe cn ce ns es))
  case atStart => exact ⟨0, by omega, rfl, by omega, Lib.hid (by simp), HG3⟩
  case round =>
    obtain ⟨k, hk, rfl, hfu, Hall, HGr⟩ := hrel
    clear e0 e1 hlt3
    obtain ⟨e0, e1, hlt3⟩ := HGr.out.cells
    by_cases hlt : k < ns.length
    · obtain ⟨b, o, rfl, hblt, hcc⟩ := HGr.out.nodes k hlt
      obtain ⟨x, hx⟩ : ∃ x, x = ns[k] := ⟨_, rfl⟩
      have hxs := HS.out ns[k] (List.getElem_mem _)
      rw [← hx] at hcc hxs
      have d0 := hcc 0 _ rfl; have d1 := hcc 1 _ rfl; have d2 := hcc 2 _ rfl
      simp only [Nat.add_zero] at d0
      have i5 : (k : Int) < (ns.length : Int) := by omega
      cases hp : mayNodeS x with
      | true =>
        have HA := Lib.hid (take_all_snoc mayNodeS ns k hlt Hall.out (by rw [← hx]; exact hp))
        have HN := Lib.hid (mayNode_any x (wr.alloc (.cells #[.string ⟨x.name.toArray⟩, .int .i64 x.kind, .int .i64 x.state] 32)) (HGr.out.alloc _).max hxs true hp)
        have HG4 := Lib.hid (HGr.out.alloc (.cells #[.string ⟨x.name.toArray⟩, .int .i64 x.kind, .int .i64 x.state] 32))
        clear hcc hx hp hxs
        go_wp2_with fail
        refine HN.out.mono ?_
        rintro e w5 ⟨rfl, hb5⟩
        have HG5 := Lib.hid (HG4.out.more hb5); clear hb5
        go_wp2_with fail
        go_roundg (gk - 1)
        case measure => omega
        case rel => exact ⟨k + 1, by omega, by go_num, by omega, HA, HG5⟩
      | false =>
        have HA := Lib.hid (show r = false by
          have := all_no mayNodeS ns k hlt (by rw [← hx]; exact hp)
          rw [← HR.out, this]; rfl)
        have HN := Lib.hid (mayNode_any x (wr.alloc (.cells #[.string ⟨x.name.toArray⟩, .int .i64 x.kind, .int .i64 x.state] 32)) (HGr.out.alloc _).max hxs false hp)
        have HG4 := Lib.hid (HGr.out.alloc (.cells #[.string ⟨x.name.toArray⟩, .int .i64 x.kind, .int .i64 x.state] 32))
        clear hcc hx hp hxs
        go_wp2_with fail
        refine HN.out.mono ?_
        rintro e w5 ⟨rfl, hb5⟩
        have HG5 := Lib.hid (HG4.out.more hb5); clear hb5
        go_wp2_with fail
        go_ret
        exact ⟨ret_bool HA.out.symm, HG5.out.below⟩
    · have hke : k = ns.length := by omega
      have HA := Lib.hid (show es.all (mayEdgeS ns) = r by
        have h1 := Hall.out
        rw [List.take_of_length_le (by omega)] at h1
        rw [← HR.out, h1]; rfl)
      clear Hall HR hke
      go_wp2_with fail
      clear e0 e1 hlt3
      go_loopg [41] (es.length + 1) (fun f i wr => ∃ k : Nat, k ≤ es.length ∧ i = .int .i64 k ∧ es.length - k < f ∧ Hid ((es.take k).all (mayEdgeS ns) = true) ∧ Hid (GIn w wr on oe cn ce ns es))
      case atStart => exact ⟨0, by omega, rfl, by omega, Lib.hid (by simp), HGr⟩
      case round =>
        clear hk hlt hfu HGr
        obtain ⟨k2, hk, rfl, hfu, Hall, HGr⟩ := hrel
        obtain ⟨e0, e1, hlt3⟩ := HGr.out.cells
        by_cases hlt : k2 < es.length
        · obtain ⟨b, o, rfl, hblt, hcc⟩ := HGr.out.edges k2 hlt
          obtain ⟨x, hx⟩ : ∃ x, x = es[k2] := ⟨_, rfl⟩
          rw [← hx] at hcc
          have d0 := hcc 0 _ rfl; have d1 := hcc 1 _ rfl; have d2 := hcc 2 _ rfl
          simp only [Nat.add_zero] at d0
          have i5 : (k2 : Int) < (es.length : Int) := by omega
          have HG4 := Lib.hid (HGr.out.alloc (.cells #[.string ⟨x.src.toArray⟩, .string ⟨x.dst.toArray⟩, .int .i64 x.rel] 58))
          have hE : (wr.alloc (.cells #[.string ⟨x.src.toArray⟩, .string ⟨x.dst.toArray⟩, .int .i64 x.rel] 58)).heap[wr.heap.size]? = some (.cells #[.string ⟨x.src.toArray⟩, .string ⟨x.dst.toArray⟩, .int .i64 x.rel] 58 (0, 0)) := heap_alloc_new wr _
          have HE := Lib.hid hE; clear hE
          have HN1 := Lib.hid (fun q (hq : nodeOf ns x.src = q) => node_any on cn ns (.slice (some ⟨b, o, none⟩) es.length ce) rfl ⟨x.src.toArray⟩ (wr.alloc (.cells #[.string ⟨x.src.toArray⟩, .string ⟨x.dst.toArray⟩, .int .i64 x.rel] 58)) HG4.out.nodes (by omega) q hq)
          have HN2 := Lib.hid (fun q (hq : nodeOf ns x.dst = q) W (hW : RowRd encN 3 W on ns) => node_any on cn ns (.slice (some ⟨b, o, none⟩) es.length ce) rfl ⟨x.dst.toArray⟩ W hW (by omega) q hq)
          have HC := Lib.hid (edge_cases ns x)
          have hno : mayEdgeS ns x = false → r = false := fun h => by
            rw [← HA.out]; exact all_no _ es k2 hlt (by rw [← hx]; exact h)
          have hyes : mayEdgeS ns x = true → (es.take (k2 + 1)).all (mayEdgeS ns) = true := fun h => take_all_snoc _ es k2 hlt Hall.out (by rw [← hx]; exact h)
          have Hno := Lib.hid hno; have Hyes := Lib.hid hyes
          clear hno hyes hcc hx
          go_wp2_with fail
          generalize wr.alloc (.cells #[.string ⟨x.src.toArray⟩, .string ⟨x.dst.toArray⟩, .int .i64 x.rel] 58) = w4 at *
          generalize hRe : wr.heap.size = RE at *
          clear hRe
          rcases HC.out with ⟨h1, hr1⟩ | ⟨a, h1, ⟨h2, hr1⟩ | ⟨a2, h2, ⟨h3, hr1⟩ | ⟨h3, ⟨h4, hr1⟩ | ⟨h4, ⟨h5, hr1⟩ | ⟨h5, ⟨h6, hr1⟩ | ⟨h6, hr1⟩⟩⟩⟩⟩⟩
          · have HF := Lib.hid (Hno.out hr1)
            cases h2 : nodeOf ns x.dst with
            | none =>
              have HN1' := Lib.hid (show Calls Tryz.prog 14 #[.agg #[.slice on ns.length cn, .slice (some ⟨b, o, none⟩) es.length ce], .string ⟨x.src.toArray⟩] w4 fun e w' => e = .returned (.tuple #[.agg #[.string ⟨#[]⟩, .int .i64 0, .int .i64 0], .bool false]) ∧ Below w4.heap.size w4 w' from HN1.out _ h1)
              have HN2' := Lib.hid (fun W (hW : RowRd encN 3 W on ns) => show Calls Tryz.prog 14 #[.agg #[.slice on ns.length cn, .slice (some ⟨b, o, none⟩) es.length ce], .string ⟨x.dst.toArray⟩] W fun e w' => e = .returned (.tuple #[.agg #[.string ⟨#[]⟩, .int .i64 0, .int .i64 0], .bool false]) ∧ Below W.heap.size W w' from HN2.out _ h2 W hW)
              clear h1 h2 HC Hno Hyes HN1 HN2 hr1
              refine HN1'.out.mono ?_
              rintro e w5 ⟨rfl, hb5⟩
              have HG5 := Lib.hid ((HG4.out.more hb5).alloc (.cells #[.string ⟨#[]⟩, .int .i64 0, .int .i64 0] 32))
              have hE5 := heap_alloc ((hb5.block _ (lt_heap HE.out)).trans HE.out) (.cells #[.string ⟨#[]⟩, .int .i64 0, .int .i64 0] 32)
              have hN5 := heap_alloc_new w5 (.cells #[.string ⟨#[]⟩, .int .i64 0, .int .i64 0] 32)
              have HE5 := Lib.hid hE5; have HN5 := Lib.hid hN5
              obtain ⟨g0, g1, hlt5⟩ := (HG4.out.more hb5).cells
              obtain ⟨f, -, -, hltE⟩ := rd ((hb5.block _ (lt_heap HE.out)).trans HE.out)
              have f0 := f 0; have f1 := f 1; have f2 := f 2
              simp only [List.getElem?_toArray, List.getElem?_cons_zero, List.getElem?_cons_succ] at f0 f1 f2
              clear hb5 hE5 hN5 f
              go_wp2_with fail
              generalize hR5 : w5.heap.size = R5 at *
              clear hR5
              generalize w5.alloc (.cells #[.string ⟨#[]⟩, .int .i64 0, .int .i64 0] 32) = w6 at *
              clear g0 g1 f0 f1 f2
              refine (HN2'.out _ HG5.out.nodes).mono ?_
              rintro e w7 ⟨rfl, hb7⟩
              have HG7 := Lib.hid ((HG5.out.more hb7).alloc (.cells #[.string ⟨#[]⟩, .int .i64 0, .int .i64 0] 32))
              obtain ⟨f, -, -, hltE⟩ := rd ((hb7.block _ (lt_heap HE5.out)).trans HE5.out)
              obtain ⟨g, -, -, hltN⟩ := rd ((hb7.block _ (lt_heap HN5.out)).trans HN5.out)
              have f0 := f 0; have f1 := f 1; have f2 := f 2; have g2 := g 2
              simp only [List.getElem?_toArray, List.getElem?_cons_zero, List.getElem?_cons_succ] at f0 f1 f2 g2
              clear hb7 f g
              go_wp2_with fail
              go_ret
              exact ⟨ret_bool HF.out.symm, HG7.out.below⟩
            | some a2 =>
              have HN1' := Lib.hid (show Calls Tryz.prog 14 #[.agg #[.slice on ns.length cn, .slice (some ⟨b, o, none⟩) es.length ce], .string ⟨x.src.toArray⟩] w4 fun e w' => e = .returned (.tuple #[.agg #[.string ⟨#[]⟩, .int .i64 0, .int .i64 0], .bool false]) ∧ Below w4.heap.size w4 w' from HN1.out _ h1)
              have HN2' := Lib.hid (fun W (hW : RowRd encN 3 W on ns) => show Calls Tryz.prog 14 #[.agg #[.slice on ns.length cn, .slice (some ⟨b, o, none⟩) es.length ce], .string ⟨x.dst.toArray⟩] W fun e w' => e = .returned (.tuple #[.agg #[.string ⟨a2.name.toArray⟩, .int .i64 a2.kind, .int .i64 a2.state], .bool true]) ∧ Below W.heap.size W w' from HN2.out _ h2 W hW)
              clear h1 h2 HC Hno Hyes HN1 HN2 hr1
              refine HN1'.out.mono ?_
              rintro e w5 ⟨rfl, hb5⟩
              have HG5 := Lib.hid ((HG4.out.more hb5).alloc (.cells #[.string ⟨#[]⟩, .int .i64 0, .int .i64 0] 32))
              have hE5 := heap_alloc ((hb5.block _ (lt_heap HE.out)).trans HE.out) (.cells #[.string ⟨#[]⟩, .int .i64 0, .int .i64 0] 32)
              have hN5 := heap_alloc_new w5 (.cells #[.string ⟨#[]⟩, .int .i64 0, .int .i64 0] 32)
              have HE5 := Lib.hid hE5; have HN5 := Lib.hid hN5
              obtain ⟨g0, g1, hlt5⟩ := (HG4.out.more hb5).cells
              obtain ⟨f, -, -, hltE⟩ := rd ((hb5.block _ (lt_heap HE.out)).trans HE.out)
              have f0 := f 0; have f1 := f 1; have f2 := f 2
              simp only [List.getElem?_toArray, List.getElem?_cons_zero, List.getElem?_cons_succ] at f0 f1 f2
              clear hb5 hE5 hN5 f
              go_wp2_with fail
              generalize hR5 : w5.heap.size = R5 at *
              clear hR5
              generalize w5.alloc (.cells #[.string ⟨#[]⟩, .int .i64 0, .int .i64 0] 32) = w6 at *
              clear g0 g1 f0 f1 f2
              refine (HN2'.out _ HG5.out.nodes).mono ?_
              rintro e w7 ⟨rfl, hb7⟩
              have HG7 := Lib.hid ((HG5.out.more hb7).alloc (.cells #[.string ⟨a2.name.toArray⟩, .int .i64 a2.kind, .int .i64 a2.state] 32))
              obtain ⟨f, -, -, hltE⟩ := rd ((hb7.block _ (lt_heap HE5.out)).trans HE5.out)
              obtain ⟨g, -, -, hltN⟩ := rd ((hb7.block _ (lt_heap HN5.out)).trans HN5.out)
              have f0 := f 0; have f1 := f 1; have f2 := f 2; have g2 := g 2
              simp only [List.getElem?_toArray, List.getElem?_cons_zero, List.getElem?_cons_succ] at f0 f1 f2 g2
              clear hb7 f g
              go_wp2_with fail
              go_ret
              exact ⟨ret_bool HF.out.symm, HG7.out.below⟩
          · have HF := Lib.hid (Hno.out hr1)
            have HN1' := Lib.hid (show Calls Tryz.prog 14 #[.agg #[.slice on ns.length cn, .slice (some ⟨b, o, none⟩) es.length ce], .string ⟨x.src.toArray⟩] w4 fun e w' => e = .returned (.tuple #[.agg #[.string ⟨a.name.toArray⟩, .int .i64 a.kind, .int .i64 a.state], .bool true]) ∧ Below w4.heap.size w4 w' from HN1.out _ h1)
            have HN2' := Lib.hid (fun W (hW : RowRd encN 3 W on ns) => show Calls Tryz.prog 14 #[.agg #[.slice on ns.length cn, .slice (some ⟨b, o, none⟩) es.length ce], .string ⟨x.dst.toArray⟩] W fun e w' => e = .returned (.tuple #[.agg #[.string ⟨#[]⟩, .int .i64 0, .int .i64 0], .bool false]) ∧ Below W.heap.size W w' from HN2.out _ h2 W hW)
            clear h1 h2 HC Hno Hyes HN1 HN2 hr1
            refine HN1'.out.mono ?_
            rintro e w5 ⟨rfl, hb5⟩
            have HG5 := Lib.hid ((HG4.out.more hb5).alloc (.cells #[.string ⟨a.name.toArray⟩, .int .i64 a.kind, .int .i64 a.state] 32))
            have hE5 := heap_alloc ((hb5.block _ (lt_heap HE.out)).trans HE.out) (.cells #[.string ⟨a.name.toArray⟩, .int .i64 a.kind, .int .i64 a.state] 32)
            have hN5 := heap_alloc_new w5 (.cells #[.string ⟨a.name.toArray⟩, .int .i64 a.kind, .int .i64 a.state] 32)
            have HE5 := Lib.hid hE5; have HN5 := Lib.hid hN5
            obtain ⟨g0, g1, hlt5⟩ := (HG4.out.more hb5).cells
            obtain ⟨f, -, -, hltE⟩ := rd ((hb5.block _ (lt_heap HE.out)).trans HE.out)
            have f0 := f 0; have f1 := f 1; have f2 := f 2
            simp only [List.getElem?_toArray, List.getElem?_cons_zero, List.getElem?_cons_succ] at f0 f1 f2
            clear hb5 hE5 hN5 f
            go_wp2_with fail
            generalize hR5 : w5.heap.size = R5 at *
            clear hR5
            generalize w5.alloc (.cells #[.string ⟨a.name.toArray⟩, .int .i64 a.kind, .int .i64 a.state] 32) = w6 at *
            clear g0 g1 f0 f1 f2
            refine (HN2'.out _ HG5.out.nodes).mono ?_
            rintro e w7 ⟨rfl, hb7⟩
            have HG7 := Lib.hid ((HG5.out.more hb7).alloc (.cells #[.string ⟨#[]⟩, .int .i64 0, .int .i64 0] 32))
            obtain ⟨f, -, -, hltE⟩ := rd ((hb7.block _ (lt_heap HE5.out)).trans HE5.out)
            obtain ⟨g, -, -, hltN⟩ := rd ((hb7.block _ (lt_heap HN5.out)).trans HN5.out)
            have f0 := f 0; have f1 := f 1; have f2 := f 2; have g2 := g 2
            simp only [List.getElem?_toArray, List.getElem?_cons_zero, List.getElem?_cons_succ] at f0 f1 f2 g2
            clear hb7 f g
            go_wp2_with fail
            go_ret
            exact ⟨ret_bool HF.out.symm, HG7.out.below⟩
          · have HF := Lib.hid (Hno.out hr1)
            have HN1' := Lib.hid (show Calls Tryz.prog 14 #[.agg #[.slice on ns.length cn, .slice (some ⟨b, o, none⟩) es.length ce], .string ⟨x.src.toArray⟩] w4 fun e w' => e = .returned (.tuple #[.agg #[.string ⟨a.name.toArray⟩, .int .i64 a.kind, .int .i64 a.state], .bool true]) ∧ Below w4.heap.size w4 w' from HN1.out _ h1)
            have HN2' := Lib.hid (fun W (hW : RowRd encN 3 W on ns) => show Calls Tryz.prog 14 #[.agg #[.slice on ns.length cn, .slice (some ⟨b, o, none⟩) es.length ce], .string ⟨x.dst.toArray⟩] W fun e w' => e = .returned (.tuple #[.agg #[.string ⟨a2.name.toArray⟩, .int .i64 a2.kind, .int .i64 a2.state], .bool true]) ∧ Below W.heap.size W w' from HN2.out _ h2 W hW)
            have q3 : (x.src == x.dst) = true := by rw [h3]; simp
            clear h1 h2 HC Hno Hyes HN1 HN2 hr1 h3
            refine HN1'.out.mono ?_
            rintro e w5 ⟨rfl, hb5⟩
            have HG5 := Lib.hid ((HG4.out.more hb5).alloc (.cells #[.string ⟨a.name.toArray⟩, .int .i64 a.kind, .int .i64 a.state] 32))
            have hE5 := heap_alloc ((hb5.block _ (lt_heap HE.out)).trans HE.out) (.cells #[.string ⟨a.name.toArray⟩, .int .i64 a.kind, .int .i64 a.state] 32)
            have hN5 := heap_alloc_new w5 (.cells #[.string ⟨a.name.toArray⟩, .int .i64 a.kind, .int .i64 a.state] 32)
            have HE5 := Lib.hid hE5; have HN5 := Lib.hid hN5
            obtain ⟨g0, g1, hlt5⟩ := (HG4.out.more hb5).cells
            obtain ⟨f, -, -, hltE⟩ := rd ((hb5.block _ (lt_heap HE.out)).trans HE.out)
            have f0 := f 0; have f1 := f 1; have f2 := f 2
            simp only [List.getElem?_toArray, List.getElem?_cons_zero, List.getElem?_cons_succ] at f0 f1 f2
            clear hb5 hE5 hN5 f
            go_wp2_with fail
            generalize hR5 : w5.heap.size = R5 at *
            clear hR5
            generalize w5.alloc (.cells #[.string ⟨a.name.toArray⟩, .int .i64 a.kind, .int .i64 a.state] 32) = w6 at *
            clear g0 g1 f0 f1 f2
            refine (HN2'.out _ HG5.out.nodes).mono ?_
            rintro e w7 ⟨rfl, hb7⟩
            have HG7 := Lib.hid ((HG5.out.more hb7).alloc (.cells #[.string ⟨a2.name.toArray⟩, .int .i64 a2.kind, .int .i64 a2.state] 32))
            obtain ⟨f, -, -, hltE⟩ := rd ((hb7.block _ (lt_heap HE5.out)).trans HE5.out)
            obtain ⟨g, -, -, hltN⟩ := rd ((hb7.block _ (lt_heap HN5.out)).trans HN5.out)
            have f0 := f 0; have f1 := f 1; have f2 := f 2; have g2 := g 2
            simp only [List.getElem?_toArray, List.getElem?_cons_zero, List.getElem?_cons_succ] at f0 f1 f2 g2
            clear hb7 f g
            go_wp2_with fail
            go_ret
            exact ⟨ret_bool HF.out.symm, HG7.out.below⟩
          · have HF := Lib.hid (Hno.out hr1)
            have HN1' := Lib.hid (show Calls Tryz.prog 14 #[.agg #[.slice on ns.length cn, .slice (some ⟨b, o, none⟩) es.length ce], .string ⟨x.src.toArray⟩] w4 fun e w' => e = .returned (.tuple #[.agg #[.string ⟨a.name.toArray⟩, .int .i64 a.kind, .int .i64 a.state], .bool true]) ∧ Below w4.heap.size w4 w' from HN1.out _ h1)
            have HN2' := Lib.hid (fun W (hW : RowRd encN 3 W on ns) => show Calls Tryz.prog 14 #[.agg #[.slice on ns.length cn, .slice (some ⟨b, o, none⟩) es.length ce], .string ⟨x.dst.toArray⟩] W fun e w' => e = .returned (.tuple #[.agg #[.string ⟨a2.name.toArray⟩, .int .i64 a2.kind, .int .i64 a2.state], .bool true]) ∧ Below W.heap.size W w' from HN2.out _ h2 W hW)
            have q3 : (x.src == x.dst) = false := by rw [beq_eq_false_iff_ne]; exact h3
            have q4 : (a.state != 1) = true := by simp only [bne, h4]; rfl
            clear h1 h2 HC Hno Hyes HN1 HN2 hr1 h3
            refine HN1'.out.mono ?_
            rintro e w5 ⟨rfl, hb5⟩
            have HG5 := Lib.hid ((HG4.out.more hb5).alloc (.cells #[.string ⟨a.name.toArray⟩, .int .i64 a.kind, .int .i64 a.state] 32))
            have hE5 := heap_alloc ((hb5.block _ (lt_heap HE.out)).trans HE.out) (.cells #[.string ⟨a.name.toArray⟩, .int .i64 a.kind, .int .i64 a.state] 32)
            have hN5 := heap_alloc_new w5 (.cells #[.string ⟨a.name.toArray⟩, .int .i64 a.kind, .int .i64 a.state] 32)
            have HE5 := Lib.hid hE5; have HN5 := Lib.hid hN5
            obtain ⟨g0, g1, hlt5⟩ := (HG4.out.more hb5).cells
            obtain ⟨f, -, -, hltE⟩ := rd ((hb5.block _ (lt_heap HE.out)).trans HE.out)
            have f0 := f 0; have f1 := f 1; have f2 := f 2
            simp only [List.getElem?_toArray, List.getElem?_cons_zero, List.getElem?_cons_succ] at f0 f1 f2
            clear hb5 hE5 hN5 f
            go_wp2_with fail
            generalize hR5 : w5.heap.size = R5 at *
            clear hR5
            generalize w5.alloc (.cells #[.string ⟨a.name.toArray⟩, .int .i64 a.kind, .int .i64 a.state] 32) = w6 at *
            clear g0 g1 f0 f1 f2
            refine (HN2'.out _ HG5.out.nodes).mono ?_
            rintro e w7 ⟨rfl, hb7⟩
            have HG7 := Lib.hid ((HG5.out.more hb7).alloc (.cells #[.string ⟨a2.name.toArray⟩, .int .i64 a2.kind, .int .i64 a2.state] 32))
            obtain ⟨f, -, -, hltE⟩ := rd ((hb7.block _ (lt_heap HE5.out)).trans HE5.out)
            obtain ⟨g, -, -, hltN⟩ := rd ((hb7.block _ (lt_heap HN5.out)).trans HN5.out)
            have f0 := f 0; have f1 := f 1; have f2 := f 2; have g2 := g 2
            simp only [List.getElem?_toArray, List.getElem?_cons_zero, List.getElem?_cons_succ] at f0 f1 f2 g2
            clear hb7 f g
            go_wp2_with fail
            go_ret
            exact ⟨ret_bool HF.out.symm, HG7.out.below⟩
          · have HF := Lib.hid (Hno.out hr1)
            have HN1' := Lib.hid (show Calls Tryz.prog 14 #[.agg #[.slice on ns.length cn, .slice (some ⟨b, o, none⟩) es.length ce], .string ⟨x.src.toArray⟩] w4 fun e w' => e = .returned (.tuple #[.agg #[.string ⟨a.name.toArray⟩, .int .i64 a.kind, .int .i64 a.state], .bool true]) ∧ Below w4.heap.size w4 w' from HN1.out _ h1)
            have HN2' := Lib.hid (fun W (hW : RowRd encN 3 W on ns) => show Calls Tryz.prog 14 #[.agg #[.slice on ns.length cn, .slice (some ⟨b, o, none⟩) es.length ce], .string ⟨x.dst.toArray⟩] W fun e w' => e = .returned (.tuple #[.agg #[.string ⟨a2.name.toArray⟩, .int .i64 a2.kind, .int .i64 a2.state], .bool true]) ∧ Below W.heap.size W w' from HN2.out _ h2 W hW)
            have q3 : (x.src == x.dst) = false := by rw [beq_eq_false_iff_ne]; exact h3
            have q4 : (a.state != 1) = false := by simp only [bne, h4]; rfl
            have q5 : decide (x.rel < 1) = true := by simpa using h5
            clear h1 h2 HC Hno Hyes HN1 HN2 hr1 h3
            refine HN1'.out.mono ?_
            rintro e w5 ⟨rfl, hb5⟩
            have HG5 := Lib.hid ((HG4.out.more hb5).alloc (.cells #[.string ⟨a.name.toArray⟩, .int .i64 a.kind, .int .i64 a.state] 32))
            have hE5 := heap_alloc ((hb5.block _ (lt_heap HE.out)).trans HE.out) (.cells #[.string ⟨a.name.toArray⟩, .int .i64 a.kind, .int .i64 a.state] 32)
            have hN5 := heap_alloc_new w5 (.cells #[.string ⟨a.name.toArray⟩, .int .i64 a.kind, .int .i64 a.state] 32)
            have HE5 := Lib.hid hE5; have HN5 := Lib.hid hN5
            obtain ⟨g0, g1, hlt5⟩ := (HG4.out.more hb5).cells
            obtain ⟨f, -, -, hltE⟩ := rd ((hb5.block _ (lt_heap HE.out)).trans HE.out)
            have f0 := f 0; have f1 := f 1; have f2 := f 2
            simp only [List.getElem?_toArray, List.getElem?_cons_zero, List.getElem?_cons_succ] at f0 f1 f2
            clear hb5 hE5 hN5 f
            go_wp2_with fail
            generalize hR5 : w5.heap.size = R5 at *
            clear hR5
            generalize w5.alloc (.cells #[.string ⟨a.name.toArray⟩, .int .i64 a.kind, .int .i64 a.state] 32) = w6 at *
            clear g0 g1 f0 f1 f2
            refine (HN2'.out _ HG5.out.nodes).mono ?_
            rintro e w7 ⟨rfl, hb7⟩
            have HG7 := Lib.hid ((HG5.out.more hb7).alloc (.cells #[.string ⟨a2.name.toArray⟩, .int .i64 a2.kind, .int .i64 a2.state] 32))
            obtain ⟨f, -, -, hltE⟩ := rd ((hb7.block _ (lt_heap HE5.out)).trans HE5.out)
            obtain ⟨g, -, -, hltN⟩ := rd ((hb7.block _ (lt_heap HN5.out)).trans HN5.out)
            have f0 := f 0; have f1 := f 1; have f2 := f 2; have g2 := g 2
            simp only [List.getElem?_toArray, List.getElem?_cons_zero, List.getElem?_cons_succ] at f0 f1 f2 g2
            clear hb7 f g
            go_wp2_with fail
            go_ret
            exact ⟨ret_bool HF.out.symm, HG7.out.below⟩
          · have HF := Lib.hid (Hno.out hr1)
            have HN1' := Lib.hid (show Calls Tryz.prog 14 #[.agg #[.slice on ns.length cn, .slice (some ⟨b, o, none⟩) es.length ce], .string ⟨x.src.toArray⟩] w4 fun e w' => e = .returned (.tuple #[.agg #[.string ⟨a.name.toArray⟩, .int .i64 a.kind, .int .i64 a.state], .bool true]) ∧ Below w4.heap.size w4 w' from HN1.out _ h1)
            have HN2' := Lib.hid (fun W (hW : RowRd encN 3 W on ns) => show Calls Tryz.prog 14 #[.agg #[.slice on ns.length cn, .slice (some ⟨b, o, none⟩) es.length ce], .string ⟨x.dst.toArray⟩] W fun e w' => e = .returned (.tuple #[.agg #[.string ⟨a2.name.toArray⟩, .int .i64 a2.kind, .int .i64 a2.state], .bool true]) ∧ Below W.heap.size W w' from HN2.out _ h2 W hW)
            have q3 : (x.src == x.dst) = false := by rw [beq_eq_false_iff_ne]; exact h3
            have q4 : (a.state != 1) = false := by simp only [bne, h4]; rfl
            have q5 : decide (x.rel < 1) = false := by simp; omega
            have q6 : decide (10 < x.rel) = true := by simpa using h6
            clear h1 h2 HC Hno Hyes HN1 HN2 hr1 h3
            refine HN1'.out.mono ?_
            rintro e w5 ⟨rfl, hb5⟩
            have HG5 := Lib.hid ((HG4.out.more hb5).alloc (.cells #[.string ⟨a.name.toArray⟩, .int .i64 a.kind, .int .i64 a.state] 32))
            have hE5 := heap_alloc ((hb5.block _ (lt_heap HE.out)).trans HE.out) (.cells #[.string ⟨a.name.toArray⟩, .int .i64 a.kind, .int .i64 a.state] 32)
            have hN5 := heap_alloc_new w5 (.cells #[.string ⟨a.name.toArray⟩, .int .i64 a.kind, .int .i64 a.state] 32)
            have HE5 := Lib.hid hE5; have HN5 := Lib.hid hN5
            obtain ⟨g0, g1, hlt5⟩ := (HG4.out.more hb5).cells
            obtain ⟨f, -, -, hltE⟩ := rd ((hb5.block _ (lt_heap HE.out)).trans HE.out)
            have f0 := f 0; have f1 := f 1; have f2 := f 2
            simp only [List.getElem?_toArray, List.getElem?_cons_zero, List.getElem?_cons_succ] at f0 f1 f2
            clear hb5 hE5 hN5 f
            go_wp2_with fail
            generalize hR5 : w5.heap.size = R5 at *
            clear hR5
            generalize w5.alloc (.cells #[.string ⟨a.name.toArray⟩, .int .i64 a.kind, .int .i64 a.state] 32) = w6 at *
            clear g0 g1 f0 f1 f2
            refine (HN2'.out _ HG5.out.nodes).mono ?_
            rintro e w7 ⟨rfl, hb7⟩
            have HG7 := Lib.hid ((HG5.out.more hb7).alloc (.cells #[.string ⟨a2.name.toArray⟩, .int .i64 a2.kind, .int .i64 a2.state] 32))
            obtain ⟨f, -, -, hltE⟩ := rd ((hb7.block _ (lt_heap HE5.out)).trans HE5.out)
            obtain ⟨g, -, -, hltN⟩ := rd ((hb7.block _ (lt_heap HN5.out)).trans HN5.out)
            have f0 := f 0; have f1 := f 1; have f2 := f 2; have g2 := g 2
            simp only [List.getElem?_toArray, List.getElem?_cons_zero, List.getElem?_cons_succ] at f0 f1 f2 g2
            clear hb7 f g
            go_wp2_with fail
            go_ret
            exact ⟨ret_bool HF.out.symm, HG7.out.below⟩
          · have HF := Lib.hid (Hyes.out hr1)
            have HN1' := Lib.hid (show Calls Tryz.prog 14 #[.agg #[.slice on ns.length cn, .slice (some ⟨b, o, none⟩) es.length ce], .string ⟨x.src.toArray⟩] w4 fun e w' => e = .returned (.tuple #[.agg #[.string ⟨a.name.toArray⟩, .int .i64 a.kind, .int .i64 a.state], .bool true]) ∧ Below w4.heap.size w4 w' from HN1.out _ h1)
            have HN2' := Lib.hid (fun W (hW : RowRd encN 3 W on ns) => show Calls Tryz.prog 14 #[.agg #[.slice on ns.length cn, .slice (some ⟨b, o, none⟩) es.length ce], .string ⟨x.dst.toArray⟩] W fun e w' => e = .returned (.tuple #[.agg #[.string ⟨a2.name.toArray⟩, .int .i64 a2.kind, .int .i64 a2.state], .bool true]) ∧ Below W.heap.size W w' from HN2.out _ h2 W hW)
            have q3 : (x.src == x.dst) = false := by rw [beq_eq_false_iff_ne]; exact h3
            have q4 : (a.state != 1) = false := by simp only [bne, h4]; rfl
            have q5 : decide (x.rel < 1) = false := by simp; omega
            have q6 : decide (10 < x.rel) = false := by simp; omega
            clear h1 h2 HC Hno Hyes HN1 HN2 hr1 h3
            refine HN1'.out.mono ?_
            rintro e w5 ⟨rfl, hb5⟩
            have HG5 := Lib.hid ((HG4.out.more hb5).alloc (.cells #[.string ⟨a.name.toArray⟩, .int .i64 a.kind, .int .i64 a.state] 32))
            have hE5 := heap_alloc ((hb5.block _ (lt_heap HE.out)).trans HE.out) (.cells #[.string ⟨a.name.toArray⟩, .int .i64 a.kind, .int .i64 a.state] 32)
            have hN5 := heap_alloc_new w5 (.cells #[.string ⟨a.name.toArray⟩, .int .i64 a.kind, .int .i64 a.state] 32)
            have HE5 := Lib.hid hE5; have HN5 := Lib.hid hN5
            obtain ⟨g0, g1, hlt5⟩ := (HG4.out.more hb5).cells
            obtain ⟨f, -, -, hltE⟩ := rd ((hb5.block _ (lt_heap HE.out)).trans HE.out)
            have f0 := f 0; have f1 := f 1; have f2 := f 2
            simp only [List.getElem?_toArray, List.getElem?_cons_zero, List.getElem?_cons_succ] at f0 f1 f2
            clear hb5 hE5 hN5 f
            go_wp2_with fail
            generalize hR5 : w5.heap.size = R5 at *
            clear hR5
            generalize w5.alloc (.cells #[.string ⟨a.name.toArray⟩, .int .i64 a.kind, .int .i64 a.state] 32) = w6 at *
            clear g0 g1 f0 f1 f2
            refine (HN2'.out _ HG5.out.nodes).mono ?_
            rintro e w7 ⟨rfl, hb7⟩
            have HG7 := Lib.hid ((HG5.out.more hb7).alloc (.cells #[.string ⟨a2.name.toArray⟩, .int .i64 a2.kind, .int .i64 a2.state] 32))
            obtain ⟨f, -, -, hltE⟩ := rd ((hb7.block _ (lt_heap HE5.out)).trans HE5.out)
            obtain ⟨g, -, -, hltN⟩ := rd ((hb7.block _ (lt_heap HN5.out)).trans HN5.out)
            have f0 := f 0; have f1 := f 1; have f2 := f 2; have g2 := g 2
            simp only [List.getElem?_toArray, List.getElem?_cons_zero, List.getElem?_cons_succ] at f0 f1 f2 g2
            clear hb7 f g
            go_wp2_with fail
            go_roundg (gk - 1)
            case measure => omega
            case rel => exact ⟨k2 + 1, by omega, by go_num, by omega, HF, HG7⟩
        · have HB := Lib.hid (show r = true by
            have h1 := Hall.out
            rw [List.take_of_length_le (by omega)] at h1
            rw [← HA.out, h1])
          go_wp2_with fail
          go_ret
          exact ⟨ret_bool HB.out.symm, HGr.out.below⟩

theorem gmay_any (on oe : Option Addr) (cn ce : Nat) (ns : List NodeS) (es : List EdgeS) (w : World) (hm : MaxAt w) (hn : RowRd encN 3 w on ns) (he : RowRd encE 3 w oe es) (hln : ns.length < 1073741824) (hle : es.length < 1073741824)
    (hs : ∀ x ∈ ns, NodeSmall x) (r : Bool) (hr : mayG ns es = r) :
    Calls Tryz.prog 16 #[.agg #[.slice on ns.length cn, .slice oe es.length ce]] w fun e w' => e = .returned (.bool r) ∧ Below w.heap.size w w' := by
  subst hr
  unfold mayG
  by_cases h64 : ns.length ≤ 64
  · rw [decide_eq_true h64]
    cases h1 : risesB ltN ns with
    | false => exact may_nodes on oe cn ce ns es w hm hn he hln hle hs h64 h1
    | true =>
      cases h2 : risesB ltE es with
      | false => exact may_edges on oe cn ce ns es w hm hn he hln hle hs h64 h1 h2
      | true => exact may_rest on oe cn ce ns es w hm hn he hln hle hs h64 h1 h2 _ (by simp)
  · rw [decide_eq_false h64]
    exact may_long on oe cn ce ns es w hm hn he hln hle hs (by omega)
end Go.Proofs.YtcaamakodneplaaGreat

/-
  The reference's Same.
-/
namespace Go.Proofs.YtcaamakodneplaaGreat
open Go Go.RowKit
set_option linter.unusedVariables false

def sameB (l m : List Str) : Bool := l == m

theorem str_beq (a b : Str) : ((⟨a.toArray⟩ : ByteArray).toList == (⟨b.toArray⟩ : ByteArray).toList) = (a == b) := by
  rw [ByteArray.toList_eq, ByteArray.toList_eq]

set_option maxHeartbeats 1000000 in
theorem same_any (oa ob : Option Addr) (ca cb : Nat) (l m : List Str) (w : World) (hl : StrRow w oa l) (hm : StrRow w ob m) (hll : l.length ≤ maxLen) (hml : m.length ≤ maxLen) :
    Calls Tryz.prog 18 #[.slice oa l.length ca, .slice ob m.length cb] w fun e w' => e = .returned (.bool (sameB l m)) ∧ ∃ n, w' = w.drewN n := by
  unfold maxLen at hll hml
  by_cases hlen : l.length = m.length
  · have hne : ((l.length : Int) != (m.length : Int)) = false := by simp [hlen]
    have Hlen := Lib.hid hlen; clear hlen
    go_enter Tryz.func18, Tryz.ntmps18
    have HL := Lib.hid hl; clear hl
    have HM := Lib.hid hm; clear hm
    go_wp2_with fail
    go_loopg [13] (l.length + 1) (fun f i wr => ∃ k : Nat, k ≤ l.length ∧ i = .int .i64 k ∧ l.length - k < f ∧ Hid (l.take k = m.take k) ∧ ∃ n, wr = w.drewN n)
    case atStart => exact ⟨0, by omega, rfl, by omega, rfl, 0, rfl⟩
    case round =>
      obtain ⟨k, hk, rfl, hfu, Hq, n, rfl⟩ := hrel
      by_cases hlt : k < l.length
      · have hlt2 : k < m.length := by have := Hlen.out; omega
        obtain ⟨b1, o1, rfl, hc1⟩ := HL.out k hlt
        obtain ⟨b2, o2, rfl, hc2⟩ := HM.out k hlt2
        cases hb : (l[k] == m[k]) with
        | true =>
          have HT := Lib.hid (show l.take (k + 1) = m.take (k + 1) by
            rw [List.take_succ_eq_append_getElem hlt, List.take_succ_eq_append_getElem hlt2, Hq.out, eq_of_beq hb])
          go_wp2_with fail
          go_quiet (fail)
          go_wp2
          go_roundg (l.length - k)
          case measure => omega
          case rel => exact ⟨k + 1, by omega, by go_num, by omega, HT, (by first | exact dn0 _ | exact dn_trans (dn _ _) | exact dn _ _)⟩
        | false =>
          have HR := Lib.hid (show sameB l m = false by
            unfold sameB; rw [beq_eq_false_iff_ne]; intro e; subst e; simp at hb)
          go_wp2_with fail
          go_quiet (fail)
          go_wp2
          go_ret
          exact ⟨ret_bool HR.out.symm, (by first | exact dn0 _ | exact dn_trans (dn _ _) | exact dn _ _)⟩
      · have HR := Lib.hid (show sameB l m = true by
          have h1 := Hq.out
          rw [List.take_of_length_le (by omega), List.take_of_length_le (by have := Hlen.out; omega)] at h1
          unfold sameB; rw [h1]; simp)
        go_wp2
        go_ret
        exact ⟨ret_bool HR.out.symm, dn _ _⟩
  · have hne : ((l.length : Int) != (m.length : Int)) = true := by simp; omega
    have HR := Lib.hid (show sameB l m = false by
      unfold sameB; rw [beq_eq_false_iff_ne]; intro e; exact hlen (by rw [e]))
    go_enter Tryz.func18, Tryz.ntmps18
    go_wp2_with fail
    go_ret
    exact ⟨ret_bool HR.out.symm, dn0 _⟩

theorem same_b (oa ob : Option Addr) (ca cb : Nat) (l m : List Str) (w : World) (hl : StrRow w oa l) (hm : StrRow w ob m) (hll : l.length ≤ maxLen) (hml : m.length ≤ maxLen) (b : Bool) (hb : sameB l m = b) :
    Calls Tryz.prog 18 #[.slice oa l.length ca, .slice ob m.length cb] w fun e w' => e = .returned (.bool b) ∧ Below w.heap.size w w' := by
  refine (same_any oa ob ca cb l m w hl hm hll hml).mono ?_
  rintro e w' ⟨rfl, hw⟩
  exact ⟨by rw [hb], below_dn hw⟩

theorem sameB_self (l : List Str) : sameB l l = true := by unfold sameB; simp
end Go.Proofs.YtcaamakodneplaaGreat

/-
  Package matinslaw15: shown.
-/
namespace Go.Proofs.YtcaamakodneplaaGreat
open Go Go.RowKit
set_option linter.unusedVariables false
set_option maxRecDepth 100000

theorem row_of_own {w : World} {B : Nat} {T : TypeId} {v : Value} {l : List Str} (h : w.ownsRow B T 1 v l.length (strVals l)) : ∃ oa cap, v = .slice oa l.length cap ∧ StrRow w oa l := by
  obtain ⟨oa, cap, rfl⟩ := ownsRow_form h
  exact ⟨oa, cap, rfl, StrRow.of_own h⟩

/-- A row of texts as an answer. -/
def TxtRet (w : World) (l : List Str) (e : Ending) (w' : World) : Prop := ∃ oa cap, e = .returned (.slice oa l.length cap) ∧ StrRow w' oa l ∧ Below w.heap.size w w'
theorem gout_txt (oe : Option Addr) (cap : Nat) (es : List EdgeS) (nv : Value) (s : ByteArray) (rel : Int) (w : World) (hr : RowRd encE 3 w oe es) (hl : es.length < 1073741824) :
    Calls Tryz.prog 19 #[.agg #[nv, .slice oe es.length cap], .string s, .int .i64 rel] w fun e w' => TxtRet w (outS es s.data.toList rel) e w' :=
  (gout_any oe cap es nv s rel w hr hl).mono fun e w' ⟨v, he, hv, hb⟩ => by
    obtain ⟨oa, c, rfl, hs⟩ := row_of_own hv
    exact ⟨oa, c, he, hs, hb⟩
theorem gin_txt (oe : Option Addr) (cap : Nat) (es : List EdgeS) (nv : Value) (s : ByteArray) (rel : Int) (w : World) (hr : RowRd encE 3 w oe es) (hl : es.length < 1073741824) :
    Calls Tryz.prog 21 #[.agg #[nv, .slice oe es.length cap], .string s, .int .i64 rel] w fun e w' => TxtRet w (inS es s.data.toList rel) e w' :=
  (gin_any oe cap es nv s rel w hr hl).mono fun e w' ⟨v, he, hv, hb⟩ => by
    obtain ⟨oa, c, rfl, hs⟩ := row_of_own hv
    exact ⟨oa, c, he, hs, hb⟩
theorem heap_below {w w' : World} {b : Nat} {o : Obj} (h : w.heap[b]? = some o) (hb : Below w.heap.size w w') : w'.heap[b]? = some o := (hb.block b (lt_heap h)).trans h
theorem cells2 {w : World} {b : Nat} {x y : Value} {T : TypeId} (h : w.heap[b]? = some (.cells #[x, y] T (0, 0))) : w.cell? ⟨b, 0, none⟩ = some x ∧ w.cell? ⟨b, 1, none⟩ = some y :=
  ⟨by rw [(rd h).1]; rfl, by rw [(rd h).1]; rfl⟩
theorem cells3 {w : World} {b : Nat} {x y z : Value} {T : TypeId} (h : w.heap[b]? = some (.cells #[x, y, z] T (0, 0))) : w.cell? ⟨b, 0, none⟩ = some x ∧ w.cell? ⟨b, 1, none⟩ = some y ∧ w.cell? ⟨b, 2, none⟩ = some z :=
  ⟨by rw [(rd h).1]; rfl, by rw [(rd h).1]; rfl, by rw [(rd h).1]; rfl⟩

theorem cells2_alloc {w : World} {b : Nat} {x y : Value} {T : TypeId} (h : w.heap[b]? = some (.cells #[x, y] T (0, 0))) (o : Obj) : (w.alloc o).cell? ⟨b, 0, none⟩ = some x ∧ (w.alloc o).cell? ⟨b, 1, none⟩ = some y :=
  cells2 (heap_below h ((Below.refl w.heap.size w).alloc (Nat.le_refl _) o))
theorem below_le {B : Nat} {w w' : World} (h : Below B w w') (hB : w.heap.size = B) : B ≤ w'.heap.size := by subst hB; exact h.size
theorem row_one (w : World) (s : Str) (T : TypeId) : StrRow (w.alloc (.cells #[.string ⟨s.toArray⟩] T)) (some ⟨w.heap.size, 0, none⟩) [s] ∧ Below w.heap.size w (w.alloc (.cells #[.string ⟨s.toArray⟩] T)) := by
  have hb := (Below.refl w.heap.size w).alloc (Nat.le_refl _) (.cells #[.string ⟨s.toArray⟩] T)
  refine ⟨fun i hi => ⟨w.heap.size, 0, rfl, ?_⟩, hb⟩
  have hi0 : i = 0 := by simp at hi; omega
  subst hi0
  rw [(rd (heap_alloc_new w (.cells #[.string ⟨s.toArray⟩] T))).1]
  rfl
abbrev nd3 : List NodeS := [⟨sA, 1, 1⟩, ⟨sB, 4, 2⟩, ⟨sFirst, 4, 2⟩]
abbrev ed3 : List EdgeS := [⟨sA, sB, 6⟩, ⟨sA, sFirst, 1⟩, ⟨sA, sFirst, 8⟩]
set_option maxHeartbeats 1000000 in
theorem shown_any (w : World) (hm : MaxAt w) : Calls Tryz.prog 9 #[] w fun e w' => e = .returned (.bool true) ∧ Below w.heap.size w w' := by
  have HX := Lib.hid hm
  have HS := Lib.hid (some_any w hm)
  clear hm
  go_enter Tryz.func9, Tryz.ntmps9
  go_wp2_with fail
  refine HS.out.mono ?_
  rintro e w1 ⟨G, g, rfl, hG, hg, hb1⟩
  have HL := Lib.hid (some_lds hG hg)
  have HB1 := Lib.hid hb1
  clear hG hg hb1 HS
  go_wp2_with fail
  refine (gof_any (some ⟨G, 0, none⟩) 3 someL w1 HL.out (by decide) (HX.out.below HB1.out)).mono ?_
  rintro e w2 ⟨vn, ve, rfl, hn, he, hb2⟩
  rw [some_nodes] at hn
  rw [some_edges] at he
  obtain ⟨on, cn, rfl⟩ := ownsRow_form hn
  obtain ⟨oe, ce, rfl⟩ := ownsRow_form he
  have HN := Lib.hid (RowRd.of_own (enc := encN) (k := 3) (fun _ => rfl) hn)
  have HE := Lib.hid (RowRd.of_own (enc := encE) (k := 3) (fun _ => rfl) he)
  have HB2 := Lib.hid (HB1.out.trans (hb2.mono HB1.out.size))
  clear hn he hb2 HB1 HL
  simp only [List.length_cons, List.length_nil, Nat.zero_add, Nat.reduceAdd]
  go_wp2_with fail
  have HG3 := Lib.hid (heap_alloc_new w2 (.cells #[.slice on 3 cn, .slice oe 3 ce] 29))
  have hb3 := (Below.refl w2.heap.size w2).alloc (Nat.le_refl _) (.cells #[.slice on 3 cn, .slice oe 3 ce] 29)
  generalize w2.alloc (.cells #[.slice on 3 cn, .slice oe 3 ce] 29) = w3 at *
  have HN3 := Lib.hid (show RowRd encN 3 w3 on nd3 from HN.out.below hb3)
  have HE3 := Lib.hid (show RowRd encE 3 w3 oe ed3 from HE.out.below hb3)
  have HB3 := Lib.hid (HB2.out.trans (hb3.mono HB2.out.size))
  generalize w2.heap.size = GB at *
  have hnd : nodeOf nd3 sA = some ⟨sA, 1, 1⟩ := by have := some_node; rw [some_nodes] at this; exact this
  have hmy : mayG nd3 ed3 = true := by have := some_may; rw [some_nodes, some_edges] at this; exact this
  have hou : outS ed3 sA 1 = [sFirst] := by have := some_out; rw [some_edges] at this; exact this
  have hin : inS ed3 sB 6 = [sA] := by have := some_in; rw [some_edges] at this; exact this
  have HND := Lib.hid hnd; have HMY := Lib.hid hmy; have HOU := Lib.hid hou; have HIN := Lib.hid hin
  clear hnd hmy hou hin hb3 HN HE HB2
  refine (node_any on cn nd3 _ rfl ⟨sA.toArray⟩ w3 HN3.out (by decide) _ HND.out).mono ?_
  rintro e w4 ⟨rfl, hb4⟩
  have HG4 := Lib.hid ((hb4.block _ (lt_heap HG3.out)).trans HG3.out)
  have HN4 := Lib.hid (HN3.out.below hb4)
  have HE4 := Lib.hid (HE3.out.below hb4)
  have HB4 := Lib.hid (HB3.out.trans (hb4.mono HB3.out.size))
  clear hb4 HG3 HN3 HE3 HB3
  unfold nodeRes
  obtain ⟨c0, c1⟩ := cells2 HG4.out
  obtain ⟨a0, a1⟩ := cells2_alloc HG4.out (.cells #[.string ⟨sA.toArray⟩, .int .i64 1, .int .i64 1] 32)
  go_wp2_with fail
  have HX5 := Lib.hid (heap_alloc_new w4 (.cells #[.string ⟨sA.toArray⟩, .int .i64 1, .int .i64 1] 32))
  have hb5 := (Below.refl w4.heap.size w4).alloc (Nat.le_refl _) (.cells #[.string ⟨sA.toArray⟩, .int .i64 1, .int .i64 1] 32)
  generalize w4.alloc (.cells #[.string ⟨sA.toArray⟩, .int .i64 1, .int .i64 1] 32) = w5 at *
  have HR := Lib.hid (fun V (h : Below w5.heap.size w5 V) => show RowRd encN 3 V on nd3 ∧ RowRd encE 3 V oe ed3 ∧ MaxAt V from by
    have h5 := hb5.trans (h.mono hb5.size)
    exact ⟨HN4.out.below h5, HE4.out.below h5, HX.out.below (HB4.out.trans (h5.mono HB4.out.size))⟩)
  have HG5 := Lib.hid (heap_below HG4.out hb5)
  have HB5 := Lib.hid (HB4.out.trans (hb5.mono HB4.out.size))
  generalize w4.heap.size = N at *
  clear hb5 HG4 HN4 HE4 HB4 a0 a1 c0 c1
  have HQ := Lib.hid (show ∀ V, Below w5.heap.size w5 V → V.cell? ⟨GB, 0, none⟩ = some (.slice on 3 cn) ∧ V.cell? ⟨GB, 1, none⟩ = some (.slice oe 3 ce) ∧ V.cell? ⟨N, 1, none⟩ = some (.int .i64 1) from fun V hV => ⟨(cells2 (heap_below HG5.out hV)).1, (cells2 (heap_below HG5.out hV)).2, (cells3 (heap_below HX5.out hV)).2.1⟩)
  clear HG5 HX5 HX
  refine (gmay_any on oe cn ce nd3 ed3 w5 (HR.out _ (Below.refl _ _)).2.2 (HR.out _ (Below.refl _ _)).1 (HR.out _ (Below.refl _ _)).2.1 (by decide) (by decide) (by intro x hx; simp at hx; rcases hx with rfl | rfl | rfl <;> (unfold NodeSmall; decide)) true HMY.out).mono ?_
  rintro e w6 ⟨rfl, hb6⟩
  have HV6 := Lib.hid hb6
  obtain ⟨c0, c1, c2⟩ := HQ.out w6 hb6
  clear hb6
  go_wp2_with fail
  clear c0 c1 c2
  refine (gout_txt oe ce ed3 _ ⟨sA.toArray⟩ 1 w6 (HR.out _ HV6.out).2.1 (by decide)).mono ?_
  rintro e w7 ⟨oa, ca, rfl, hr7, hb7⟩
  change StrRow w7 oa (outS ed3 sA 1) at hr7
  have HL7 := Lib.hid (show (outS ed3 (⟨sA.toArray⟩ : ByteArray).data.toList 1).length = 1 from congrArg List.length HOU.out)
  rw [HL7.out]
  rw [HOU.out] at hr7
  have HR7 := Lib.hid hr7
  have HV7 := Lib.hid (HV6.out.trans (hb7.mono HV6.out.size))
  clear hr7 hb7 HV6
  go_wp2_with fail
  obtain ⟨hr8, hb8⟩ := row_one w7 sFirst 9
  refine (same_b oa _ ca 1 [sFirst] [sFirst] _ (HR7.out.below hb8) hr8 (by decide) (by decide) true rfl).mono ?_
  rintro e w8 ⟨rfl, hb9⟩
  have HV8 := Lib.hid ((HV7.out.trans (hb8.mono HV7.out.size)).trans (hb9.mono (Nat.le_trans HV7.out.size hb8.size)))
  clear hr8 hb8 hb9 HR7 HV7 HL7
  obtain ⟨c0, c1, c2⟩ := HQ.out w8 HV8.out
  go_wp2_with fail
  clear c0 c1 c2
  refine (gin_txt oe ce ed3 _ ⟨sB.toArray⟩ 6 w8 (HR.out _ HV8.out).2.1 (by decide)).mono ?_
  rintro e w9 ⟨oi, ci, rfl, hr9, hb9⟩
  change StrRow w9 oi (inS ed3 sB 6) at hr9
  have HL9 := Lib.hid (show (inS ed3 (⟨sB.toArray⟩ : ByteArray).data.toList 6).length = 1 from congrArg List.length HIN.out)
  rw [HL9.out]
  rw [HIN.out] at hr9
  have HR9 := Lib.hid hr9
  have HV9 := Lib.hid (HV8.out.trans (hb9.mono HV8.out.size))
  clear hr9 hb9 HV8
  go_wp2_with fail
  obtain ⟨hr8, hb8⟩ := row_one w9 sA 9
  refine (same_b oi _ ci 1 [sA] [sA] _ (HR9.out.below hb8) hr8 (by decide) (by decide) true rfl).mono ?_
  rintro e w10 ⟨rfl, hb9⟩
  have HV10 := Lib.hid ((HV9.out.trans (hb8.mono HV9.out.size)).trans (hb9.mono (Nat.le_trans HV9.out.size hb8.size)))
  clear hr8 hb8 hb9 HR9 HV9 HL9
  go_wp2_with fail
  go_ret
  exact ⟨rfl, HB5.out.trans (HV10.out.mono HB5.out.size)⟩
end Go.Proofs.YtcaamakodneplaaGreat

/-
  The reference's put, less, Node of package matinsref15.
-/
namespace Go.Proofs.YtcaamakodneplaaGreat
open Go Go.RowKit
set_option linter.unusedVariables false
set_option maxRecDepth 100000

/-- Texts that came in, or were made: a slice that reads as l. -/
structure StrArg (w : World) (oa : Option Addr) (n cap : Nat) (l : List Str) : Prop where
  row : StrRow w oa l
  len : n = l.length
  fit : l.length ≤ cap
  isnil : oa = none → cap = 0
  form : ∀ a, oa = some a → ∃ b o, a = ⟨b, o, none⟩
  lt : ∀ b o, oa = some ⟨b, o, none⟩ → l ≠ [] → b < w.heap.size
theorem StrArg.below {w w' : World} {oa : Option Addr} {n cap : Nat} {l : List Str} (h : StrArg w oa n cap l) (hb : Below w.heap.size w w') : StrArg w' oa n cap l :=
  ⟨h.row.below hb, h.len, h.fit, h.isnil, h.form, fun b o e q => Nat.lt_of_lt_of_le (h.lt b o e q) hb.size⟩
theorem StrArg.of_own {w : World} {B : Nat} {e : TypeId} {oa : Option Addr} {n cap : Nat} {l : List Str} (h : w.ownsRow B e 1 (.slice oa n cap) n (strVals l)) : StrArg w oa n cap l := by
  have hln : l.length = n := by simpa [strVals] using h.1
  refine ⟨StrRow.of_own h, hln.symm, ?_, ?_, ?_, ?_⟩
  · rcases h.2 with ⟨hv, h0⟩ | ⟨g, cap', cur, hv, hb, hg, hnc, _⟩
    · omega
    · injection hv with _ _ e3; omega
  · rintro rfl
    rcases h.2 with ⟨hv, h0⟩ | ⟨g, cap', cur, hv, _⟩
    · injection hv
    · injection hv with e1; cases e1
  · rintro a rfl
    rcases h.2 with ⟨hv, h0⟩ | ⟨g, cap', cur, hv, _⟩
    · injection hv with e1; cases e1
    · injection hv with e1; injection e1 with e1; exact ⟨g, 0, e1⟩
  · rintro b o rfl hl
    rcases h.2 with ⟨hv, h0⟩ | ⟨g, cap', cur, hv, hb, hg, _⟩
    · injection hv with e1; cases e1
    · injection hv with e1; injection e1 with e1; injection e1 with e1; subst e1; exact lt_heap hg
/-- What a function says that hands back texts. -/
def OutS (w : World) (l : List Str) (e : Ending) (w' : World) : Prop := ∃ oa n cap, e = .returned (.slice oa n cap) ∧ StrArg w' oa n cap l ∧ Below w.heap.size w w'

theorem put_end {w w1 w2 : World} {B : Nat} {v : Value} {n : Nat} {T : TypeId} {s : ByteArray} {l r : List Str} {k : Nat} (hr : r = l.take k ++ s.data.toList :: l.drop k) (h1 : Below w.heap.size w w1) (hB : w.heap.size ≤ B) (hg2 : w1.grownBy w2 none) (hn : n = k + (1 + (l.length - k))) (hk : k ≤ l.length)
    (ho : w2.ownsRow B T 1 v n (strVals (l.take k) ++ ([.string s] ++ strVals (l.drop k)))) : OutS w r (.returned v) w2 := by
  have e : strVals (l.take k) ++ ([.string s] ++ strVals (l.drop k)) = strVals r := by rw [hr]; simp [strVals]
  rw [e] at ho
  obtain ⟨oa, cap, rfl⟩ := ownsRow_form ho
  exact ⟨oa, n, cap, rfl, StrArg.of_own ho, h1.grown hg2 h1.size (fun g hg => by cases hg)⟩
set_option maxHeartbeats 2000000 in
theorem put_any (oa : Option Addr) (n cap : Nat) (l : List Str) (s : ByteArray) (w : World) (h : StrArg w oa n cap l) (hl : l.length < 1073741824) (r : List Str) (hr : insL ltS s.data.toList l = r) :
    Calls Tryz.prog 33 #[.slice oa n cap, .string s] w fun e w' => OutS w r e w' := by
  obtain ⟨i0, hi0, hz0, hz1, hz2⟩ := info_parts infoString
  have hn := h.len
  subst hn
  have HA := Lib.hid h; clear h
  have HR := Lib.hid hr; clear hr
  go_enter Tryz.func33, Tryz.ntmps33
  go_wp2_with fail
  go_loop [5] (fun i => ∃ k : Nat, k ≤ l.length ∧ i = .int .i64 k ∧ Hid (∀ j (hj : j < l.length), j < k → ltS l[j] s.data.toList = true)) (fun i => l.length - (intOf i).toNat)
  case atStart => exact ⟨0, Nat.zero_le _, rfl, Lib.hid (fun j _ h => absurd h (by omega))⟩
  case round =>
    obtain ⟨k, hk, rfl, Hlt⟩ := hrel
    by_cases hkl : k < l.length
    · obtain ⟨b, o, rfl, hc⟩ := HA.out.row k hkl
      obtain ⟨x, hx⟩ : ∃ x, x = l[k] := ⟨_, rfl⟩
      rw [← hx] at hc
      have i5 : (k : Int) < (l.length : Int) := by omega
      cases hq : ltS x s.data.toList with
      | true =>
        have q1 : Op.bytesLess x s.toList = true := by rw [ByteArray.toList_eq]; exact hq
        have HN := Lib.hid (show ∀ j (hj : j < l.length), j < k + 1 → ltS l[j] s.data.toList = true from fun j hj hjk => by
          rcases Nat.lt_or_ge j k with p | p
          · exact Hlt.out j hj p
          · have : j = k := by omega
            subst this; rw [← hx]; exact hq)
        clear hq hx
        go_wp2_with fail
        go_round
        case rel => exact ⟨k + 1, by omega, by go_num, HN⟩
        case measure => simp [intOf]; omega
      | false =>
        have q1 : Op.bytesLess x s.toList = false := by rw [ByteArray.toList_eq]; exact hq
        have hins := insL_at stoS s.data.toList l k hk Hlt.out (fun _ => by rw [← hx]; exact hq)
        rw [HR.out, List.getElem?_eq_getElem hkl, ← hx] at hins
        by_cases he : x = s.data.toList
        · rw [if_pos (by rw [he]), List.take_append_drop] at hins
          have q2 : (x == s.toList) = true := by rw [he, ByteArray.toList_eq]; simp
          have HI := Lib.hid hins
          clear hins hq hx he
          go_wp2_with fail
          go_ret
          exact ⟨_, _, _, rfl, by rw [HI.out]; exact HA.out, Below.refl _ _⟩
        · rw [if_neg (by simpa using he)] at hins
          have q2 : (x == s.toList) = false := by rw [beq_eq_false_iff_ne, ByteArray.toList_eq]; exact he
          have HI := Lib.hid hins
          have hcap := HA.out.fit
          have i6 : (k : Int) ≤ (cap : Int) := by omega
          have i7 : (l.length : Int) ≤ (cap : Int) := by omega
          have i8 : (k : Int) ≤ (l.length : Int) := by omega
          have hkc : ¬ (cap = k) := by omega
          clear hins hq hx he
          have HW := Lib.hid (show Below w.heap.size w (w.alloc (.cells #[.string s] 9)).drew from ((Below.refl _ _).alloc (Nat.le_refl _) _).trans (below_dn ⟨1, rfl⟩))
          have hlt1 := hkl
          go_wp2_with fail
          go_region_held3 (fun _ => (0 : Nat) = 0) (rfl)
            (first
              | (refine step_append_rows (by rfl) (.tmp 38) (.tmp 41) 37 (by rfl) w.heap.size 9 i0 (.string ⟨#[]⟩) 1 16 Tryz.underlying37 hi0 hz0 hz1 hz2 (by rfl) (by decide) (.slice (some ⟨w.heap.size, 0, none⟩) 1 1) 1 [.string s] (by rfl) (own_built w (.string s) 9) (some ⟨b, o + k, none⟩) (l.length - k) (cap - k) (strVals (l.drop k)) (by rfl)
                  (by simp [strVals]) ((HA.out.row.below HW.out).drop k).cells (strVals_one _) (by unfold maxLen; omega) (by omega) (by simp) ?_; intro v1 w1 hown1 hgrow1; obtain ⟨g1, cap1, rfl, hcell1, hbg1, hlg1⟩ := own_open hown1 (by omega))
              | (refine step_append_grows (by rfl) (.tmp 36) (.tmp 42) 37 (by rfl) 9 i0 (.string ⟨#[]⟩) 1 16 Tryz.underlying37 hi0 hz0 hz1 hz2 (by rfl) (by decide) (some ⟨b, o, none⟩) k k (strVals (l.take k)) (by rfl) (by simp) (by simp [strVals]; omega)
                  ((HA.out.row.below (HW.out.grown hgrow1 (by simp) (fun g hg => by simp [Value.ownBlock] at hg; omega))).take k).holds ⟨g1, 0, none⟩ (1 + (l.length - k)) cap1 ([.string s] ++ strVals (l.drop k)) (by rfl) (by simp [strVals]; omega) hcell1 (by intro u hu; rcases List.mem_append.1 hu with q | q; (simp at q; subst q; rfl); exact strVals_one _ u q) (by omega) (by unfold maxLen; omega) (by omega) ?_; intro v2 w2 hown2 hgrow2))
          have HE := Lib.hid (put_end HI.out (HW.out.grown hgrow1 (by simp) (fun g hg => by simp [Value.ownBlock] at hg; omega)) (by have := hgrow1.size; simp at this; omega) hgrow2 rfl hk hown2)
          clear hgrow1 hgrow2 hown1 hown2 hcell1
          go_wp2_with fail
          go_ret
          exact HE.out
    · have hke : k = l.length := by omega
      have hins := insL_at stoS s.data.toList l k hk Hlt.out (fun q => absurd q hkl)
      rw [HR.out, List.getElem?_eq_none (by omega), if_neg (by simp)] at hins
      have HI := Lib.hid hins
      have hcap := HA.out.fit
      have i6 : (k : Int) ≤ (cap : Int) := by omega
      have i7 : (l.length : Int) ≤ (cap : Int) := by omega
      have i8 : (k : Int) ≤ (l.length : Int) := by omega
      have HW := Lib.hid (show Below w.heap.size w (w.alloc (.cells #[.string s] 9)).drew from ((Below.refl _ _).alloc (Nat.le_refl _) _).trans (below_dn ⟨1, rfl⟩))
      have hdr : StrRow (w.alloc (.cells #[.string s] 9)).drew none (l.drop k) := by rw [List.drop_eq_nil_of_le (by omega)]; exact StrRow.nil _ _
      clear hins
      cases oa with
      | none =>
        have hc0 := HA.out.isnil rfl
        have hk0 : k = 0 := by omega
        subst hk0
        subst hc0
        have HD := Lib.hid hdr
        have hl0 : l = [] := List.eq_nil_of_length_eq_zero (by omega)
        clear hdr hke hkl hk i6 i7 i8 hcap Hlt
        subst hl0
        have hk : 0 ≤ ([] : List Str).length := Nat.zero_le _
        go_wp2_with fail
        go_region_held3 (fun _ => (0 : Nat) = 0) (rfl)
          (first
            | (refine step_append_rows (by rfl) (.tmp 38) (.tmp 41) 37 (by rfl) w.heap.size 9 i0 (.string ⟨#[]⟩) 1 16 Tryz.underlying37 hi0 hz0 hz1 hz2 (by rfl) (by decide) (.slice (some ⟨w.heap.size, 0, none⟩) 1 1) 1 [.string s] (by rfl) (own_built w (.string s) 9) (none) (0) (0) (strVals (([] : List Str).drop 0)) (by rfl)
                (by simp [strVals]; try omega) HD.out.cells (strVals_one _) (by unfold maxLen; omega) (by omega) (by simp) ?_; intro v1 w1 hown1 hgrow1; obtain ⟨g1, cap1, rfl, hcell1, hbg1, hlg1⟩ := own_open hown1 (by omega))
            | (refine step_append_grows (by rfl) (.tmp 36) (.tmp 42) 37 (by rfl) 9 i0 (.string ⟨#[]⟩) 1 16 Tryz.underlying37 hi0 hz0 hz1 hz2 (by rfl) (by decide) (none) 0 0 (strVals (([] : List Str).take 0)) (by rfl) (by simp) (by simp [strVals]; try omega)
                (fun b e => by cases e) ⟨g1, 0, none⟩ (1 + (0)) cap1 ([.string s] ++ strVals (([] : List Str).drop 0)) (by rfl) (by simp [strVals]; try omega) hcell1 (by intro u hu; rcases List.mem_append.1 hu with q | q; (simp at q; subst q; rfl); exact strVals_one _ u q) (by omega) (by unfold maxLen; omega) (by omega) ?_; intro v2 w2 hown2 hgrow2))
        have HE := Lib.hid (put_end HI.out (HW.out.grown hgrow1 (by simp) (fun g hg => by simp [Value.ownBlock] at hg; omega)) (by have := hgrow1.size; simp at this; omega) hgrow2 (by simp) hk hown2)
        clear hgrow1 hgrow2 hown1 hown2 hcell1
        go_wp2_with fail
        go_ret
        exact HE.out
      | some a =>
        obtain ⟨b, o, rfl⟩ := HA.out.form a rfl
        have hlen1 : l.length - k = 0 := by omega
        by_cases hkc : cap = k
        · subst hkc
          have HD := Lib.hid (show StrRow (w.alloc (.cells #[.string s] 9)).drew (some ⟨b, o, none⟩) (l.drop cap) by rw [List.drop_eq_nil_of_le (by omega)]; exact StrRow.nil _ _)
          clear hdr
          have j1 : (cap : Int) ≤ (cap : Int) := by omega
          subst hke
          go_wp2_with fail
          go_region_held3 (fun _ => (0 : Nat) = 0) (rfl)
            (first
              | (refine step_append_rows (by rfl) (.tmp 38) (.tmp 41) 37 (by rfl) w.heap.size 9 i0 (.string ⟨#[]⟩) 1 16 Tryz.underlying37 hi0 hz0 hz1 hz2 (by rfl) (by decide) (.slice (some ⟨w.heap.size, 0, none⟩) 1 1) 1 [.string s] (by rfl) (own_built w (.string s) 9) (some ⟨b, o, none⟩) (0) (0) (strVals (l.drop l.length)) (by rfl)
                  (by simp [strVals]; try omega) HD.out.cells (strVals_one _) (by unfold maxLen; omega) (by omega) (by simp) ?_; intro v1 w1 hown1 hgrow1; obtain ⟨g1, cap1, rfl, hcell1, hbg1, hlg1⟩ := own_open hown1 (by omega))
              | (refine step_append_grows (by rfl) (.tmp 36) (.tmp 42) 37 (by rfl) 9 i0 (.string ⟨#[]⟩) 1 16 Tryz.underlying37 hi0 hz0 hz1 hz2 (by rfl) (by decide) (some ⟨b, o, none⟩) l.length l.length (strVals (l.take l.length)) (by rfl) (by simp) (by simp [strVals]; try omega)
                  ((HA.out.row.below (HW.out.grown hgrow1 (by simp) (fun g hg => by simp [Value.ownBlock] at hg; omega))).take l.length).holds ⟨g1, 0, none⟩ (1 + (0)) cap1 ([.string s] ++ strVals (l.drop l.length)) (by rfl) (by simp [strVals]; try omega) hcell1 (by intro u hu; rcases List.mem_append.1 hu with q | q; (simp at q; subst q; rfl); exact strVals_one _ u q) (by omega) (by unfold maxLen; omega) (by omega) ?_; intro v2 w2 hown2 hgrow2))
          have HE := Lib.hid (put_end HI.out (HW.out.grown hgrow1 (by simp) (fun g hg => by simp [Value.ownBlock] at hg; omega)) (by have := hgrow1.size; simp at this; omega) hgrow2 (by omega) hk hown2)
          clear hgrow1 hgrow2 hown1 hown2 hcell1
          go_wp2_with fail
          go_ret
          exact HE.out
        · have HD := Lib.hid (show StrRow (w.alloc (.cells #[.string s] 9)).drew (some ⟨b, o + k, none⟩) (l.drop k) by rw [List.drop_eq_nil_of_le (by omega)]; exact StrRow.nil _ _)
          clear hdr
          subst hke
          go_wp2_with fail
          go_region_held3 (fun _ => (0 : Nat) = 0) (rfl)
            (first
              | (refine step_append_rows (by rfl) (.tmp 38) (.tmp 41) 37 (by rfl) w.heap.size 9 i0 (.string ⟨#[]⟩) 1 16 Tryz.underlying37 hi0 hz0 hz1 hz2 (by rfl) (by decide) (.slice (some ⟨w.heap.size, 0, none⟩) 1 1) 1 [.string s] (by rfl) (own_built w (.string s) 9) (some ⟨b, o + l.length, none⟩) (0) (cap - l.length) (strVals (l.drop l.length)) (by rfl)
                  (by simp [strVals]; try omega) HD.out.cells (strVals_one _) (by unfold maxLen; omega) (by omega) (by simp) ?_; intro v1 w1 hown1 hgrow1; obtain ⟨g1, cap1, rfl, hcell1, hbg1, hlg1⟩ := own_open hown1 (by omega))
              | (refine step_append_grows (by rfl) (.tmp 36) (.tmp 42) 37 (by rfl) 9 i0 (.string ⟨#[]⟩) 1 16 Tryz.underlying37 hi0 hz0 hz1 hz2 (by rfl) (by decide) (some ⟨b, o, none⟩) l.length l.length (strVals (l.take l.length)) (by rfl) (by simp) (by simp [strVals]; try omega)
                  ((HA.out.row.below (HW.out.grown hgrow1 (by simp) (fun g hg => by simp [Value.ownBlock] at hg; omega))).take l.length).holds ⟨g1, 0, none⟩ (1 + (0)) cap1 ([.string s] ++ strVals (l.drop l.length)) (by rfl) (by simp [strVals]; try omega) hcell1 (by intro u hu; rcases List.mem_append.1 hu with q | q; (simp at q; subst q; rfl); exact strVals_one _ u q) (by omega) (by unfold maxLen; omega) (by omega) ?_; intro v2 w2 hown2 hgrow2))
          have HE := Lib.hid (put_end HI.out (HW.out.grown hgrow1 (by simp) (fun g hg => by simp [Value.ownBlock] at hg; omega)) (by have := hgrow1.size; simp at this; omega) hgrow2 (by omega) hk hown2)
          clear hgrow1 hgrow2 hown1 hown2 hcell1
          go_wp2_with fail
          go_ret
          exact HE.out
end Go.Proofs.YtcaamakodneplaaGreat

/-
  The reference's less, Node, Out, In of package matinsref15; Same of matinsref5, Has of matinsref7.
-/
namespace Go.Proofs.YtcaamakodneplaaGreat
open Go Go.RowKit
set_option linter.unusedVariables false
set_option maxRecDepth 100000

set_option maxHeartbeats 1000000 in
theorem less_any (x y : EdgeS) (w : World) (r : Bool) (hr : ltE x y = r) :
    Calls Tryz.prog 41 #[.agg #[.string ⟨x.src.toArray⟩, .string ⟨x.dst.toArray⟩, .int .i64 x.rel], .agg #[.string ⟨y.src.toArray⟩, .string ⟨y.dst.toArray⟩, .int .i64 y.rel]] w fun e w' => e = .returned (.bool r) ∧ Below w.heap.size w w' := by
  have HB := Lib.hid (show Below w.heap.size w ((w.alloc (.cells #[.string ⟨x.src.toArray⟩, .string ⟨x.dst.toArray⟩, .int .i64 x.rel] 58)).alloc (.cells #[.string ⟨y.src.toArray⟩, .string ⟨y.dst.toArray⟩, .int .i64 y.rel] 58)) from ((Below.refl _ _).alloc (Nat.le_refl _) _).alloc (by simp) _)
  rw [ltE_eq] at hr
  by_cases h1 : x.src = y.src
  · rw [if_pos h1] at hr
    have q1 : (x.src == y.src) = true := by rw [h1]; simp
    by_cases h2 : x.dst = y.dst
    · rw [if_pos h2] at hr
      have q2 : (x.dst == y.dst) = true := by rw [h2]; simp
      clear h1 h2
      go_enter Tryz.func41, Tryz.ntmps41
      go_wp2_with fail
      go_ret
      exact ⟨by simp [*], HB.out⟩
    · rw [if_neg h2] at hr
      have q2 : (x.dst == y.dst) = false := by rw [beq_eq_false_iff_ne]; exact h2
      clear h1 h2
      go_enter Tryz.func41, Tryz.ntmps41
      go_wp2_with fail
      go_ret
      exact ⟨by simp [*], HB.out⟩
  · rw [if_neg h1] at hr
    have q1 : (x.src == y.src) = false := by rw [beq_eq_false_iff_ne]; exact h1
    clear h1
    go_enter Tryz.func41, Tryz.ntmps41
    go_wp2_with fail
    go_ret
    exact ⟨by simp [*], HB.out⟩

theorem nodeOf_snoc (ns : List NodeS) (s : Str) (k : Nat) (h : k < ns.length) (h0 : nodeOf (ns.take k) s = none) : nodeOf (ns.take (k + 1)) s = if ns[k].name == s then some ns[k] else none := by
  unfold nodeOf at *
  rw [List.take_succ_eq_append_getElem h, List.find?_append, h0]
  cases hq : (ns[k].name == s) <;> simp [hq]
theorem nodeOf_hit (ns : List NodeS) (s : Str) (k : Nat) (h : k < ns.length) (h0 : nodeOf (ns.take k) s = none) (hq : (ns[k].name == s) = true) : nodeOf ns s = some ns[k] := by
  unfold nodeOf at *
  have e : ns.find? (fun n => n.name == s) = (ns.take k ++ ns.drop k).find? fun n => n.name == s := by rw [List.take_append_drop]
  rw [e, List.find?_append, h0, List.drop_eq_getElem_cons h]
  have e2 : (ns[k] :: ns.drop (k + 1)).find? (fun n => n.name == s) = some ns[k] := by rw [List.find?_cons]; simp only [hq]
  rw [e2]; rfl

set_option maxHeartbeats 1000000 in
theorem nodeR_any (oa : Option Addr) (cap : Nat) (ns : List NodeS) (ev : Value) (hev : ev.cells = #[ev]) (s : ByteArray) (w : World) (hr : RowRd encN 3 w oa ns) (hl : ns.length < 4611686018427387904) (q : Option NodeS) (hq : nodeOf ns s.data.toList = q) :
    Calls Tryz.prog 15 #[.agg #[.slice oa ns.length cap, ev], .string s] w fun e w' => e = .returned (nodeRes q) ∧ Below w.heap.size w w' := by
  let w1 := w.alloc (.cells #[.slice oa ns.length cap, ev] 29)
  let w2 := w1.alloc (.cells #[.string ⟨#[]⟩, .int .i64 0, .int .i64 0] 32)
  have z1 : w1.heap.size = w.heap.size + 1 := by simp [w1]
  have hB2 : Below w.heap.size w w2 := ((Below.refl _ _).alloc (Nat.le_refl _) _).alloc (by simp) _
  have g2 : w2.heap[w.heap.size + 1]? = some (.cells #[.string ⟨#[]⟩, .int .i64 0, .int .i64 0] 32 (0, 0)) := by rw [← z1]; exact heap_alloc_new w1 _
  have HB := Lib.hid hB2
  have HG := Lib.hid g2
  have HR := Lib.hid hr
  have HQ := Lib.hid hq
  clear hB2 g2 z1 hr hq
  go_enter Tryz.func15, Tryz.ntmps15
  go_wp2_with fail
  have e2 : (w.alloc (.cells #[.slice oa ns.length cap, ev] 29)).alloc (.cells #[.string ⟨#[]⟩, .int .i64 0, .int .i64 0] 32) = w2 := rfl
  rw [e2]
  clear e2
  generalize w2 = w3 at *
  clear w2 w1
  go_loopg [11] (ns.length + 1) (fun f i wr => ∃ k : Nat, k ≤ ns.length ∧ i = .int .i64 k ∧ ns.length - k < f ∧ Hid (nodeOf (ns.take k) s.data.toList = none) ∧ Hid (Below w.heap.size w wr) ∧ Hid (wr.heap[w.heap.size + 1]? = some (.cells #[.string ⟨#[]⟩, .int .i64 0, .int .i64 0] 32 (0, 0))))
  case atStart => exact ⟨0, by omega, rfl, by omega, Lib.hid (by simp [nodeOf]), HB, HG⟩
  case round =>
    obtain ⟨k, hk, rfl, hf, Hn, Hb, Hg⟩ := hrel
    by_cases hlt : k < ns.length
    · obtain ⟨b, o, rfl, hblt, hcc⟩ := (HR.out.below Hb.out) k hlt
      obtain ⟨x, hx⟩ : ∃ x, x = ns[k] := ⟨_, rfl⟩
      rw [← hx] at hcc
      have d0 := hcc 0 _ rfl; have d1 := hcc 1 _ rfl; have d2 := hcc 2 _ rfl
      simp only [Nat.add_zero] at d0
      have i5 : (k : Int) < (ns.length : Int) := by omega
      have hg1 := heap_alloc Hg.out (.cells #[.string ⟨x.name.toArray⟩, .int .i64 x.kind, .int .i64 x.state] 32)
      have hltg := lt_heap Hg.out
      have Hg2 := Lib.hid hg1
      have Hb2 := Lib.hid (Hb.out.alloc Hb.out.size (.cells #[.string ⟨x.name.toArray⟩, .int .i64 x.kind, .int .i64 x.state] 32))
      clear hg1
      cases hq : (x.name == s.data.toList) with
      | true =>
        have q1 : (x.name == s.toList) = true := by rw [ByteArray.toList_eq]; exact hq
        have HQ2 := Lib.hid (show q = some x by rw [← HQ.out, nodeOf_hit ns _ k hlt Hn.out (by rw [← hx]; exact hq), hx])
        obtain ⟨cc, ff, -, -⟩ := rd Hg.out
        have c0 := cc 0; have c1 := cc 1; have c2 := cc 2
        have f0 := ff 0; have f1 := ff 1; have f2 := ff 2
        have hne : w.heap.size + 1 ≠ wr.heap.size := by omega
        simp only [List.getElem?_toArray, List.getElem?_cons_zero, List.getElem?_cons_succ] at c0 c1 c2
        clear hq hx hcc cc ff
        go_wp2_with fail
        have hfin := heap_alloc (heap_setCell (heap_setCell (heap_setCell Hg.out 0 (.string ⟨x.name.toArray⟩)) 1 (.int .i64 x.kind)) 2 (.int .i64 x.state)) (.cells #[.string ⟨x.name.toArray⟩, .int .i64 x.kind, .int .i64 x.state] 32)
        have hbf := (((Hb.out.setCell (p := ⟨w.heap.size + 1, 0, none⟩) (by simp) (.string ⟨x.name.toArray⟩)).setCell (p := ⟨w.heap.size + 1, 1, none⟩) (by simp) (.int .i64 x.kind)).setCell (p := ⟨w.heap.size + 1, 2, none⟩) (by simp) (.int .i64 x.state)).alloc (by simpa using Hb.out.size) (.cells #[.string ⟨x.name.toArray⟩, .int .i64 x.kind, .int .i64 x.state] 32)
        generalize (((wr.setCell ⟨w.heap.size + 1, 0, none⟩ (.string ⟨x.name.toArray⟩)).setCell ⟨w.heap.size + 1, 1, none⟩ (.int .i64 x.kind)).setCell ⟨w.heap.size + 1, 2, none⟩ (.int .i64 x.state)).alloc (.cells #[.string ⟨x.name.toArray⟩, .int .i64 x.kind, .int .i64 x.state] 32) = w9 at hfin hbf ⊢
        obtain ⟨ee, -, -, -⟩ := rd hfin
        have e0 := ee 0; have e1 := ee 1; have e2 := ee 2
        simp only [List.setIfInBounds_toArray, List.set_cons_zero, List.set_cons_succ, List.getElem?_toArray, List.getElem?_cons_zero, List.getElem?_cons_succ] at e0 e1 e2
        refine bodyPost_ret (v := nodeRes (some x)) ?_ rfl ⟨by rw [HQ2.out], hbf⟩
        simp [results, Tryz.results15, go_sem, nodeRes, e0, e1, e2]
      | false =>
        have q1 : (x.name == s.toList) = false := by rw [ByteArray.toList_eq]; exact hq
        have HN := Lib.hid (show nodeOf (ns.take (k + 1)) s.data.toList = none by rw [nodeOf_snoc ns _ k hlt Hn.out, ← hx, hq]; rfl)
        clear hq hx hcc
        go_wp2_with fail
        go_roundg (gk - 1)
        case measure => omega
        case rel => exact ⟨k + 1, by omega, by go_num, by omega, HN, Hb2, Hg2⟩
    · have HQ2 := Lib.hid (show q = none by
        have := Hn.out
        rw [List.take_of_length_le (by omega)] at this
        rw [← HQ.out, this])
      obtain ⟨cc, ff, -, -⟩ := rd Hg.out
      have c0 := cc 0; have c1 := cc 1; have c2 := cc 2
      have f0 := ff 0; have f1 := ff 1; have f2 := ff 2
      simp only [List.getElem?_toArray, List.getElem?_cons_zero, List.getElem?_cons_succ] at c0 c1 c2
      clear cc ff
      go_wp2_with fail
      refine bodyPost_ret (v := nodeRes none) ?_ rfl ⟨by rw [HQ2.out], ?_⟩
      · simp [results, Tryz.results15, go_sem, nodeRes, c0, c1, c2]
      · exact ((Hb.out.setCell (by simp) _).setCell (by simp) _).setCell (by simp) _

theorem outIns_snoc (es : List EdgeS) (s : Str) (rel : Int) (k : Nat) (h : k < es.length) : sortL ltS (outTo (es.take (k + 1)) s rel) = if (es[k].src == s && es[k].rel == rel) = true then insL ltS es[k].dst (sortL ltS (outTo (es.take k) s rel)) else sortL ltS (outTo (es.take k) s rel) := by
  rw [outTo_snoc es s rel k h]
  cases hq : (es[k].src == s && es[k].rel == rel) with
  | true => simp [sortL, List.foldl_append]
  | false => simp
theorem outIns_len (es : List EdgeS) (s : Str) (rel : Int) : (sortL ltS (outTo es s rel)).length ≤ es.length := by
  have h2 := outTo_len es s rel
  have : ∀ (l acc : List Str), (l.foldl (fun acc e => insL ltS e acc) acc).length ≤ l.length + acc.length := by
    intro l
    induction l with
    | nil => intro acc; simp
    | cons x r ih =>
      intro acc
      have h1 := ih (insL ltS x acc)
      have h3 : ∀ m : List Str, (insL ltS x m).length ≤ m.length + 1 := by
        intro m
        induction m with
        | nil => simp [insL]
        | cons y m ih2 => unfold insL; split <;> (try split) <;> simp <;> omega
      have := h3 acc
      simp only [List.foldl_cons, List.length_cons]
      omega
  have := this (outTo es s rel) []
  unfold sortL
  simp at this
  omega
set_option maxHeartbeats 2000000 in
theorem outR_any (oe : Option Addr) (cap : Nat) (es : List EdgeS) (nv : Value) (s : ByteArray) (rel : Int) (w : World) (hr : RowRd encE 3 w oe es) (hl : es.length < 1073741824) :
    Calls Tryz.prog 20 #[.agg #[nv, .slice oe es.length cap], .string s, .int .i64 rel] w fun e w' => OutS w (outS es s.data.toList rel) e w' := by
  have HR := Lib.hid hr; clear hr
  have HO := Lib.hid (show sortL ltS (outTo es s.data.toList rel) = outS es s.data.toList rel from rfl)
  go_enter Tryz.func20, Tryz.ntmps20
  go_wp2_with fail
  have HB0 := Lib.hid ((Below.refl w.heap.size w).alloc (Nat.le_refl _) (.cells #[nv, .slice oe es.length cap] 29))
  generalize w.alloc (.cells #[nv, .slice oe es.length cap] 29) = w1 at *
  go_loopg [7, 13] (es.length + 1) (fun f v i wr => ∃ k : Nat, k ≤ es.length ∧ i = .int .i64 k ∧ es.length - k < f ∧ (∃ oa' n' cap', v = .slice oa' n' cap' ∧ Hid (StrArg wr oa' n' cap' (sortL ltS (outTo (es.take k) s.data.toList rel)))) ∧ Hid (Below w.heap.size w wr))
  case atStart => exact ⟨0, by omega, rfl, by omega, ⟨none, 0, 0, rfl, Lib.hid ⟨StrRow.nil _ _, rfl, Nat.le_refl _, fun _ => rfl, (fun a h => by cases h), (fun b o h => by cases h)⟩⟩, HB0⟩
  case round =>
    obtain ⟨k, hk, rfl, hfu, ⟨oa', n', cap', rfl, HA⟩, Hb⟩ := hrel
    by_cases hlt : k < es.length
    · obtain ⟨b, o, rfl, hblt, hcc⟩ := (HR.out.below Hb.out) k hlt
      have HS := Lib.hid (outIns_snoc es s.data.toList rel k hlt)
      have hlen := outIns_len (es.take k) s.data.toList rel
      rw [List.length_take, Nat.min_eq_left (by omega)] at hlen
      obtain ⟨x, hx⟩ : ∃ x, x = es[k] := ⟨_, rfl⟩
      rw [← hx] at hcc HS
      have d0 := hcc 0 _ rfl; have d1 := hcc 1 _ rfl; have d2 := hcc 2 _ rfl
      simp only [Nat.add_zero] at d0
      clear hcc hx
      generalize sortL ltS (outTo (es.take k) s.data.toList rel) = acc at *
      have hsz := Hb.out.size
      have i5 : (k : Int) < (es.length : Int) := by omega
      have hbx := (Below.refl wr.heap.size wr).alloc (Nat.le_refl _) (.cells #[.string ⟨x.src.toArray⟩, .string ⟨x.dst.toArray⟩, .int .i64 x.rel] 58)
      have HA2 := Lib.hid (HA.out.below hbx)
      have Hb2 := Lib.hid (Hb.out.alloc hsz (.cells #[.string ⟨x.src.toArray⟩, .string ⟨x.dst.toArray⟩, .int .i64 x.rel] 58))
      clear hbx
      cases hq1 : (x.src == s.data.toList) with
      | false =>
        have q1 : (x.src == s.toList) = false := by rw [ByteArray.toList_eq]; exact hq1
        have HS2 := Lib.hid (show sortL ltS (outTo (es.take (k + 1)) s.data.toList rel) = acc by rw [HS.out, hq1]; simp)
        clear hq1
        go_wp2_with fail
        go_roundg (gk - 1)
        case measure => omega
        case rel => exact ⟨k + 1, by omega, by go_num, by omega, ⟨oa', n', cap', rfl, by rw [HS2.out]; exact HA2⟩, Hb2⟩
      | true =>
        have q1 : (x.src == s.toList) = true := by rw [ByteArray.toList_eq]; exact hq1
        cases hq2 : (x.rel == rel) with
        | false =>
          have HS2 := Lib.hid (show sortL ltS (outTo (es.take (k + 1)) s.data.toList rel) = acc by rw [HS.out, hq2]; simp)
          clear hq1
          go_wp2_with fail
          go_roundg (gk - 1)
          case measure => omega
          case rel => exact ⟨k + 1, by omega, by go_num, by omega, ⟨oa', n', cap', rfl, by rw [HS2.out]; exact HA2⟩, Hb2⟩
        | true =>
          have HS2 := Lib.hid (show insL ltS (⟨x.dst.toArray⟩ : ByteArray).data.toList acc = sortL ltS (outTo (es.take (k + 1)) s.data.toList rel) by rw [HS.out, hq1, hq2]; simp)
          have HP := Lib.hid (put_any oa' n' cap' acc ⟨x.dst.toArray⟩ _ HA2.out (by omega) _ HS2.out)
          clear hq1 HS
          go_wp2_with fail
          refine HP.out.mono ?_
          rintro e w5 ⟨oa5, n5, cap5, rfl, ha5, hb5⟩
          have HA5 := Lib.hid ha5
          have Hb5 := Lib.hid (Hb2.out.trans (hb5.mono Hb2.out.size))
          clear ha5 hb5
          go_wp2_with fail
          go_roundg (gk - 1)
          case measure => omega
          case rel => exact ⟨k + 1, by omega, by go_num, by omega, ⟨oa5, n5, cap5, rfl, HA5⟩, Hb5⟩
    · have hte : outTo (es.take k) s.data.toList rel = outTo es s.data.toList rel := by rw [List.take_of_length_le (by omega)]
      rw [hte, HO.out] at HA
      clear hte
      go_wp2_with fail
      go_ret
      exact ⟨_, _, _, rfl, HA.out, Hb.out⟩

theorem inIns_snoc (es : List EdgeS) (s : Str) (rel : Int) (k : Nat) (h : k < es.length) : sortL ltS (inTo (es.take (k + 1)) s rel) = if (es[k].dst == s && es[k].rel == rel) = true then insL ltS es[k].src (sortL ltS (inTo (es.take k) s rel)) else sortL ltS (inTo (es.take k) s rel) := by
  rw [inTo_snoc es s rel k h]
  cases hq : (es[k].dst == s && es[k].rel == rel) with
  | true => simp [sortL, List.foldl_append]
  | false => simp
theorem inIns_len (es : List EdgeS) (s : Str) (rel : Int) : (sortL ltS (inTo es s rel)).length ≤ es.length := by
  have h2 := inTo_len es s rel
  have : ∀ (l acc : List Str), (l.foldl (fun acc e => insL ltS e acc) acc).length ≤ l.length + acc.length := by
    intro l
    induction l with
    | nil => intro acc; simp
    | cons x r ih =>
      intro acc
      have h1 := ih (insL ltS x acc)
      have h3 : ∀ m : List Str, (insL ltS x m).length ≤ m.length + 1 := by
        intro m
        induction m with
        | nil => simp [insL]
        | cons y m ih2 => unfold insL; split <;> (try split) <;> simp <;> omega
      have := h3 acc
      simp only [List.foldl_cons, List.length_cons]
      omega
  have := this (inTo es s rel) []
  unfold sortL
  simp at this
  omega
set_option maxHeartbeats 2000000 in
theorem inR_any (oe : Option Addr) (cap : Nat) (es : List EdgeS) (nv : Value) (s : ByteArray) (rel : Int) (w : World) (hr : RowRd encE 3 w oe es) (hl : es.length < 1073741824) :
    Calls Tryz.prog 22 #[.agg #[nv, .slice oe es.length cap], .string s, .int .i64 rel] w fun e w' => OutS w (inS es s.data.toList rel) e w' := by
  have HR := Lib.hid hr; clear hr
  have HO := Lib.hid (show sortL ltS (inTo es s.data.toList rel) = inS es s.data.toList rel from rfl)
  go_enter Tryz.func22, Tryz.ntmps22
  go_wp2_with fail
  have HB0 := Lib.hid ((Below.refl w.heap.size w).alloc (Nat.le_refl _) (.cells #[nv, .slice oe es.length cap] 29))
  generalize w.alloc (.cells #[nv, .slice oe es.length cap] 29) = w1 at *
  go_loopg [7, 13] (es.length + 1) (fun f v i wr => ∃ k : Nat, k ≤ es.length ∧ i = .int .i64 k ∧ es.length - k < f ∧ (∃ oa' n' cap', v = .slice oa' n' cap' ∧ Hid (StrArg wr oa' n' cap' (sortL ltS (inTo (es.take k) s.data.toList rel)))) ∧ Hid (Below w.heap.size w wr))
  case atStart => exact ⟨0, by omega, rfl, by omega, ⟨none, 0, 0, rfl, Lib.hid ⟨StrRow.nil _ _, rfl, Nat.le_refl _, fun _ => rfl, (fun a h => by cases h), (fun b o h => by cases h)⟩⟩, HB0⟩
  case round =>
    obtain ⟨k, hk, rfl, hfu, ⟨oa', n', cap', rfl, HA⟩, Hb⟩ := hrel
    by_cases hlt : k < es.length
    · obtain ⟨b, o, rfl, hblt, hcc⟩ := (HR.out.below Hb.out) k hlt
      have HS := Lib.hid (inIns_snoc es s.data.toList rel k hlt)
      have hlen := inIns_len (es.take k) s.data.toList rel
      rw [List.length_take, Nat.min_eq_left (by omega)] at hlen
      obtain ⟨x, hx⟩ : ∃ x, x = es[k] := ⟨_, rfl⟩
      rw [← hx] at hcc HS
      have d0 := hcc 0 _ rfl; have d1 := hcc 1 _ rfl; have d2 := hcc 2 _ rfl
      simp only [Nat.add_zero] at d0
      clear hcc hx
      generalize sortL ltS (inTo (es.take k) s.data.toList rel) = acc at *
      have hsz := Hb.out.size
      have i5 : (k : Int) < (es.length : Int) := by omega
      have hbx := (Below.refl wr.heap.size wr).alloc (Nat.le_refl _) (.cells #[.string ⟨x.src.toArray⟩, .string ⟨x.dst.toArray⟩, .int .i64 x.rel] 58)
      have HA2 := Lib.hid (HA.out.below hbx)
      have Hb2 := Lib.hid (Hb.out.alloc hsz (.cells #[.string ⟨x.src.toArray⟩, .string ⟨x.dst.toArray⟩, .int .i64 x.rel] 58))
      clear hbx
      cases hq1 : (x.dst == s.data.toList) with
      | false =>
        have q1 : (x.dst == s.toList) = false := by rw [ByteArray.toList_eq]; exact hq1
        have HS2 := Lib.hid (show sortL ltS (inTo (es.take (k + 1)) s.data.toList rel) = acc by rw [HS.out, hq1]; simp)
        clear hq1
        go_wp2_with fail
        go_roundg (gk - 1)
        case measure => omega
        case rel => exact ⟨k + 1, by omega, by go_num, by omega, ⟨oa', n', cap', rfl, by rw [HS2.out]; exact HA2⟩, Hb2⟩
      | true =>
        have q1 : (x.dst == s.toList) = true := by rw [ByteArray.toList_eq]; exact hq1
        cases hq2 : (x.rel == rel) with
        | false =>
          have HS2 := Lib.hid (show sortL ltS (inTo (es.take (k + 1)) s.data.toList rel) = acc by rw [HS.out, hq2]; simp)
          clear hq1
          go_wp2_with fail
          go_roundg (gk - 1)
          case measure => omega
          case rel => exact ⟨k + 1, by omega, by go_num, by omega, ⟨oa', n', cap', rfl, by rw [HS2.out]; exact HA2⟩, Hb2⟩
        | true =>
          have HS2 := Lib.hid (show insL ltS (⟨x.src.toArray⟩ : ByteArray).data.toList acc = sortL ltS (inTo (es.take (k + 1)) s.data.toList rel) by rw [HS.out, hq1, hq2]; simp)
          have HP := Lib.hid (put_any oa' n' cap' acc ⟨x.src.toArray⟩ _ HA2.out (by omega) _ HS2.out)
          clear hq1 HS
          go_wp2_with fail
          refine HP.out.mono ?_
          rintro e w5 ⟨oa5, n5, cap5, rfl, ha5, hb5⟩
          have HA5 := Lib.hid ha5
          have Hb5 := Lib.hid (Hb2.out.trans (hb5.mono Hb2.out.size))
          clear ha5 hb5
          go_wp2_with fail
          go_roundg (gk - 1)
          case measure => omega
          case rel => exact ⟨k + 1, by omega, by go_num, by omega, ⟨oa5, n5, cap5, rfl, HA5⟩, Hb5⟩
    · have hte : inTo (es.take k) s.data.toList rel = inTo es s.data.toList rel := by rw [List.take_of_length_le (by omega)]
      rw [hte, HO.out] at HA
      clear hte
      go_wp2_with fail
      go_ret
      exact ⟨_, _, _, rfl, HA.out, Hb.out⟩

set_option maxHeartbeats 1000000 in
theorem has7_any (oa : Option Addr) (n cap : Nat) (l : List Str) (s : ByteArray) (w : World) (h : StrRow w oa l) (hn : n = l.length) (hl : l.length < 4611686018427387904) (r : Bool) (hr : l.contains s.data.toList = r) :
    Calls Tryz.prog 23 #[.slice oa n cap, .string s] w fun e w' => e = .returned (.bool r) ∧ w = w' := by
  subst hn
  have HA := Lib.hid h; clear h
  have HR := Lib.hid hr; clear hr
  go_enter Tryz.func23, Tryz.ntmps23
  go_wp2
  go_loop [9] (fun i => ∃ k : Nat, k ≤ l.length ∧ i = .int .i64 k ∧ Hid ((l.take k).contains s.data.toList = false)) (fun i => l.length - (intOf i).toNat)
  case atStart => exact ⟨0, Nat.zero_le _, rfl, Lib.hid (by simp)⟩
  case round =>
    obtain ⟨k, hk, rfl, Hno⟩ := hrel
    by_cases hkl : k < l.length
    · obtain ⟨b, o, rfl, hc⟩ := HA.out k hkl
      obtain ⟨x, hx⟩ : ∃ x, x = l[k] := ⟨_, rfl⟩
      rw [← hx] at hc
      have i5 : (k : Int) < (l.length : Int) := by omega
      cases hq : (x == s.data.toList) with
      | true =>
        have q1 : (x == s.toList) = true := by rw [ByteArray.toList_eq]; exact hq
        have HT := Lib.hid (show r = true by
          rw [← HR.out, List.contains_iff_mem, ← eq_of_beq hq, hx]; exact List.getElem_mem _)
        clear hq hx
        go_wp2_with fail
        go_ret
        exact ⟨ret_bool HT.out.symm, rfl⟩
      | false =>
        have q1 : (x == s.toList) = false := by rw [ByteArray.toList_eq]; exact hq
        have HN := Lib.hid (show (l.take (k + 1)).contains s.data.toList = false by
          rw [List.take_succ_eq_append_getElem hkl, List.contains_append, Hno.out, ← hx]
          simp
          rw [beq_eq_false_iff_ne] at hq
          exact fun e => hq e.symm)
        clear hq hx
        go_wp2_with fail
        go_round
        case rel => exact ⟨k + 1, by omega, by go_num, HN⟩
        case measure => simp [intOf]; omega
    · have HT := Lib.hid (show r = false by
        have := Hno.out
        rw [List.take_of_length_le (by omega)] at this
        rw [← HR.out, this])
      go_wp2_with fail
      go_ret
      exact ⟨ret_bool HT.out.symm, rfl⟩
end Go.Proofs.YtcaamakodneplaaGreat

/-
  The reference's Letter, Digit, nameByte, Suffix.
-/
namespace Go.Proofs.YtcaamakodneplaaGreat
open Go Go.RowKit
set_option linter.unusedVariables false
set_option maxRecDepth 100000

set_option maxHeartbeats 400000 in
theorem let1_any (c : UInt8) (w : World) :
    Calls Tryz.prog 62 #[.int .u8 c.toNat] w fun e w' => e = .returned (.bool (isLetter c)) ∧ w = w' := by
  go_enter Tryz.func62, Tryz.ntmps62
  go_wp2
  all_goals
    go_ret
    refine ⟨ret_bool ?_, rfl⟩
    rw [isLetter_iff, Bool.eq_iff_iff]
    simp
    omega
set_option maxHeartbeats 400000 in
theorem dig1_any (c : UInt8) (w : World) :
    Calls Tryz.prog 63 #[.int .u8 c.toNat] w fun e w' => e = .returned (.bool (isDigit c)) ∧ w = w' := by
  go_enter Tryz.func63, Tryz.ntmps63
  go_wp2
  all_goals
    go_ret
    refine ⟨ret_bool ?_, rfl⟩
    rw [isDigit_iff, Bool.eq_iff_iff]
    simp
    omega
theorem signs_iff (c : UInt8) : ([58, 45, 95, 46, 92] : Str).contains c = decide ((c.toNat : Int) = 58 ∨ (c.toNat : Int) = 45 ∨ (c.toNat : Int) = 95 ∨ (c.toNat : Int) = 46 ∨ (c.toNat : Int) = 92) := by
  rw [Bool.eq_iff_iff, List.contains_iff_mem]
  simp [← UInt8.toNat_inj]
  omega
set_option maxHeartbeats 1000000 in
theorem nameByte_any (c : UInt8) (w : World) (b : Bool) (hb : nameC c = b) :
    Calls Tryz.prog 44 #[.int .u8 c.toNat] w fun e w' => e = .returned (.bool b) ∧ w = w' := by
  subst hb
  have HL := Lib.hid (fun W => let1_any c W)
  have HD := Lib.hid (fun W => dig1_any c W)
  unfold nameC
  rw [signs_iff]
  have hc := UInt8.toNat_lt c
  generalize isLetter c = l at *
  generalize isDigit c = d at *
  generalize c.toNat = n at *
  cases l with
  | true =>
    go_enter Tryz.func44, Tryz.ntmps44
    go_wp2_with (go_at_call 62; refine (HL.out _).mono ?_; rintro e w' ⟨rfl, rfl⟩)
    go_ret
    exact ⟨rfl, rfl⟩
  | false =>
    cases d with
    | true =>
      go_enter Tryz.func44, Tryz.ntmps44
      go_wp2_with (first
        | (go_at_call 62; refine (HL.out _).mono ?_; rintro e w' ⟨rfl, rfl⟩)
        | (go_at_call 63; refine (HD.out _).mono ?_; rintro e w' ⟨rfl, rfl⟩))
      go_ret
      exact ⟨rfl, rfl⟩
    | false =>
      go_enter Tryz.func44, Tryz.ntmps44
      go_wp2_with (first
        | (go_at_call 62; refine (HL.out _).mono ?_; rintro e w' ⟨rfl, rfl⟩)
        | (go_at_call 63; refine (HD.out _).mono ?_; rintro e w' ⟨rfl, rfl⟩))
      all_goals
        go_ret
        refine ⟨ret_bool ?_, rfl⟩
        rw [Bool.eq_iff_iff]
        simp
        try omega

/-- The string of a kind's suffix. -/
def sufJ (n : Int) : Str := if n = 1 then sService else if n = 2 then sSocket else if n = 3 then sTimer else if n = 4 then sTarget else []
theorem sufJ_nat (k : Nat) : sufJ (k : Int) = sufS k := by
  unfold sufJ sufS
  by_cases h1 : k = 1
  · subst h1; rfl
  by_cases h2 : k = 2
  · subst h2; rfl
  by_cases h3 : k = 3
  · subst h3; rfl
  by_cases h4 : k = 4
  · subst h4; rfl
  rw [if_neg (by omega), if_neg (by omega), if_neg (by omega), if_neg (by omega), if_neg h1, if_neg h2, if_neg h3, if_neg h4]

set_option maxHeartbeats 400000 in
theorem suffix1_any (n : Int) (w : World) (t : Str) (ht : sufJ n = t) :
    Calls Tryz.prog 43 #[.int .i64 n] w fun e w' => e = .returned (.string ⟨t.toArray⟩) ∧ w = w' := by
  subst ht
  by_cases h1 : n = 1
  · subst h1
    go_enter Tryz.func43, Tryz.ntmps43
    go_wp2
    go_ret
    exact ⟨rfl, rfl⟩
  by_cases h2 : n = 2
  · subst h2
    clear h1
    go_enter Tryz.func43, Tryz.ntmps43
    go_wp2
    go_ret
    exact ⟨rfl, rfl⟩
  by_cases h3 : n = 3
  · subst h3
    clear h1 h2
    go_enter Tryz.func43, Tryz.ntmps43
    go_wp2
    go_ret
    exact ⟨rfl, rfl⟩
  by_cases h4 : n = 4
  · subst h4
    clear h1 h2 h3
    go_enter Tryz.func43, Tryz.ntmps43
    go_wp2
    go_ret
    exact ⟨rfl, rfl⟩
  have e : sufJ n = [] := by unfold sufJ; rw [if_neg h1, if_neg h2, if_neg h3, if_neg h4]
  rw [e]
  have q1 : (n == 1) = false := by rw [beq_eq_false_iff_ne]; exact h1
  have q2 : (n == 2) = false := by rw [beq_eq_false_iff_ne]; exact h2
  have q3 : (n == 3) = false := by rw [beq_eq_false_iff_ne]; exact h3
  have q4 : (n == 4) = false := by rw [beq_eq_false_iff_ne]; exact h4
  clear e h1 h2 h3 h4
  go_enter Tryz.func43, Tryz.ntmps43
  go_wp2
  go_ret
  exact ⟨rfl, rfl⟩
end Go.Proofs.YtcaamakodneplaaGreat
