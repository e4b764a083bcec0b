/-
  The reference's keys (matinsref7): Keys.
-/
import Derived.Test.YtdpnahojhmkemaaGreatDoorKeyR1
namespace Go.Proofs.YtdpnahojhmkemaaGreatDoor
open Go Go.RowKit
set_option linter.unusedVariables false
set_option linter.unusedSimpArgs false
set_option maxRecDepth 100000

theorem step_keys (w0 w1 w2 : World) (vs kvs : List KeyV) (ks ks2 : List KeyS) (oa oa2 : Option Addr) (cap cap2 n : Nat) (hown : w1.ownsRow w0.heap.size 28 6 (.slice oa vs.length cap) vs.length (flatL encK vs)) (hk : KvsRd w1 vs ks) (hb : Below w0.heap.size w0 w1)
    (hn : n = kvs.length) (hown2 : w2.ownsRow w1.heap.size 28 6 (.slice oa2 n cap2) n (flatL encK kvs)) (hb2 : Below w1.heap.size w1 w2) (hk2 : KvsRd w2 kvs ks2) (hs : ks.length + ks2.length ≤ 1000) :
    ∃ vs3 oa3 cap3 w3, (Builtin.append_ #[23, 23] 23 #[.slice oa vs.length cap, .slice oa2 n cap2]).run Tryz.prog w2 = .ok (.slice oa3 vs3.length cap3) w3 ∧
      w3.ownsRow w0.heap.size 28 6 (.slice oa3 vs3.length cap3) vs3.length (flatL encK vs3) ∧ KvsRd w3 vs3 (ks ++ ks2) ∧ Below w0.heap.size w0 w3 := by
  subst hn
  obtain ⟨i0, hi0, hz0, hz1, hz2⟩ := info_parts infoKey
  have l1 := hk.1
  have l2 := hk2.1
  have hB2 := hb.trans (hb2.mono hb.size)
  have ho := own_keeps hown hb2
  obtain ⟨v', w3, hrun, hown3, hgrow⟩ := append_rows (P := Tryz.prog) w0.heap.size 23 23 28 i0 (.agg #[.string ⟨#[]⟩, .string ⟨#[]⟩, .int .i64 0, .bool false, .int .i64 0, .slice none 0 0]) 6 80 Tryz.underlying23 hi0 hz0 hz1 hz2 (by rfl) (by decide) _ _ _ ho oa2 kvs.length cap2 (flatL encK kvs) (by rw [flatL_length (enc := encK) (k := 6) (fun _ => rfl)])
    (RowRd.flat (enc := encK) (k := 6) (fun _ => rfl) (by omega) (RowRd.of_own (enc := encK) (k := 6) (fun _ => rfl) hown2)) (flatL_oneCell encK_one _) (by unfold maxLen; omega) (by omega) hB2.size
  rw [← flatL_append, ← List.length_append] at hown3
  obtain ⟨oa3, cap3, rfl⟩ := ownsRow_form hown3
  have hbg : Below w0.heap.size w0 w3 := hB2.grown hgrow hB2.size (fun g hg => (ho.lt g hg).1)
  refine ⟨vs ++ kvs, oa3, cap3, w3, hrun, hown3, ?_, hbg⟩
  have hkeep : ∀ (B : Nat) (v : Value) (n : Nat) (xs : List Value), w2.ownsRow B 9 1 v n xs → w3.ownsRow B 9 1 v n xs := by
    intro B v n xs h
    refine World.ownsRow.kept h hgrow ?_
    rcases h.2 with ⟨rfl, _⟩ | ⟨g, cp, cur, rfl, _, hg, _⟩
    · exact .inl rfl
    · refine .inr (fun e => ?_)
      obtain ⟨_, cs, fz, h4⟩ := ownsRow_row ho g e.symm
      rw [hg] at h4
      simp at h4
  have hkv : ∀ {a : List KeyV} {b : List KeyS}, KvsRd w2 a b → KvsRd w3 a b := fun q => ⟨q.1, fun i h1 h2 => { q.2 i h1 h2 with ww := (q.2 i h1 h2).ww.imp id fun ⟨B, z⟩ => ⟨B, hkeep _ _ _ _ z⟩ }⟩
  exact KvsRd.append (hkv (hk.below hb2)) (hkv hk2)

set_option maxHeartbeats 8000000 in
theorem keysR_any (w : World) : Calls Tryz.prog 11 #[] w fun e w' => AllOut w e w' := by
  have HO := Lib.hid (World.ownsRow_nil w w.heap.size 28 6 : w.ownsRow w.heap.size 28 6 (.slice none ([] : List KeyV).length 0) ([] : List KeyV).length (flatL encK []))
  have HK := Lib.hid (KvsRd.nil w)
  have HB := Lib.hid (Below.refl w.heap.size w)
  obtain ⟨w0, hw0⟩ : ∃ x, x = w := ⟨_, rfl⟩
  rw [← hw0] at HO HK HB ⊢
  have HW := Lib.hid hw0
  clear hw0
  go_enter Tryz.func11, Tryz.ntmps11
  go_wp2_with fail
  have HR := Lib.hid (rowR_any nUnit [68, 101, 115, 99, 114, 105, 112, 116, 105, 111, 110] 1 false rowUnit0 w0 (by decide +kernel) (by decide) 30 (by decide))
  refine HR.out.mono ?_
  rintro e u1 ⟨v, rfl, ho, hb⟩
  obtain ⟨oa2, cap2, rfl⟩ := ownsRow_form ho
  obtain ⟨vs3, oa3, cap3, w1, hrun, ho3, hk3, hb3⟩ := step_keys w0 w0 u1 _ _ _ _ _ oa2 _ cap2 _ HO.out HK.out HB.out (by rfl) ho hb (KvsRd.plain _ nUnit 30 1 false rowUnit0) (by decide)
  clear HO HK HB HR ho hb
  have HO := Lib.hid ho3; have HK := Lib.hid hk3; have HB := Lib.hid hb3; have HRUN := Lib.hid hrun
  clear ho3 hk3 hb3 hrun
  go_wp2_with (at_builtin; refine wpList_append_run rfl _ _ 23 rfl HRUN.out rfl rfl ?_)
  clear HRUN
  have HR := Lib.hid (rowR_any nUnit [68, 101, 102, 97, 117, 108, 116, 68, 101, 112, 101, 110, 100, 101, 110, 99, 105, 101, 115] 2 false rowUnit1 w1 (by decide +kernel) (by decide) 30 (by decide))
  refine HR.out.mono ?_
  rintro e u2 ⟨v, rfl, ho, hb⟩
  obtain ⟨oa2, cap2, rfl⟩ := ownsRow_form ho
  obtain ⟨vs3, oa3, cap3, w2, hrun, ho3, hk3, hb3⟩ := step_keys w0 w1 u2 _ _ _ _ _ oa2 _ cap2 _ HO.out HK.out HB.out (by rfl) ho hb (KvsRd.plain _ nUnit 30 2 false rowUnit1) (by decide)
  clear HO HK HB HR ho hb
  have HO := Lib.hid ho3; have HK := Lib.hid hk3; have HB := Lib.hid hb3; have HRUN := Lib.hid hrun
  clear ho3 hk3 hb3 hrun
  go_wp2_with (at_builtin; refine wpList_append_run rfl _ _ 23 rfl HRUN.out rfl rfl ?_)
  clear HRUN
  have HR := Lib.hid (rowR_any nUnit [82, 101, 113, 117, 105, 114, 101, 115, 32, 87, 97, 110, 116, 115, 32, 82, 101, 113, 117, 105, 115, 105, 116, 101, 32, 66, 105, 110, 100, 115, 84, 111, 32, 80, 97, 114, 116, 79, 102, 32, 67, 111, 110, 102, 108, 105, 99, 116, 115, 32, 66, 101, 102, 111, 114, 101, 32, 65, 102, 116, 101, 114, 32, 79, 110, 70, 97, 105, 108, 117, 114, 101] 6 true rowUnit2 w2 (by decide +kernel) (by decide) 30 (by decide))
  refine HR.out.mono ?_
  rintro e u3 ⟨v, rfl, ho, hb⟩
  obtain ⟨oa2, cap2, rfl⟩ := ownsRow_form ho
  obtain ⟨vs3, oa3, cap3, w3, hrun, ho3, hk3, hb3⟩ := step_keys w0 w2 u3 _ _ _ _ _ oa2 _ cap2 _ HO.out HK.out HB.out (by rfl) ho hb (KvsRd.plain _ nUnit 30 6 true rowUnit2) (by decide)
  clear HO HK HB HR ho hb
  have HO := Lib.hid ho3; have HK := Lib.hid hk3; have HB := Lib.hid hb3; have HRUN := Lib.hid hrun
  clear ho3 hk3 hb3 hrun
  go_wp2_with (at_builtin; refine wpList_append_run rfl _ _ 23 rfl HRUN.out rfl rfl ?_)
  clear HRUN
  have HR := Lib.hid (rowR_any nUnit [83, 116, 97, 114, 116, 76, 105, 109, 105, 116, 73, 110, 116, 101, 114, 118, 97, 108, 83, 101, 99] 4 false rowUnit3 w3 (by decide +kernel) (by decide) 30 (by decide))
  refine HR.out.mono ?_
  rintro e u4 ⟨v, rfl, ho, hb⟩
  obtain ⟨oa2, cap2, rfl⟩ := ownsRow_form ho
  obtain ⟨vs3, oa3, cap3, w4, hrun, ho3, hk3, hb3⟩ := step_keys w0 w3 u4 _ _ _ _ _ oa2 _ cap2 _ HO.out HK.out HB.out (by rfl) ho hb (KvsRd.plain _ nUnit 30 4 false rowUnit3) (by decide)
  clear HO HK HB HR ho hb
  have HO := Lib.hid ho3; have HK := Lib.hid hk3; have HB := Lib.hid hb3; have HRUN := Lib.hid hrun
  clear ho3 hk3 hb3 hrun
  go_wp2_with (at_builtin; refine wpList_append_run rfl _ _ 23 rfl HRUN.out rfl rfl ?_)
  clear HRUN
  have HR := Lib.hid (rowR_any nUnit [83, 116, 97, 114, 116, 76, 105, 109, 105, 116, 66, 117, 114, 115, 116] 3 false rowUnit4 w4 (by decide +kernel) (by decide) 30 (by decide))
  refine HR.out.mono ?_
  rintro e u5 ⟨v, rfl, ho, hb⟩
  obtain ⟨oa2, cap2, rfl⟩ := ownsRow_form ho
  obtain ⟨vs3, oa3, cap3, w5, hrun, ho3, hk3, hb3⟩ := step_keys w0 w4 u5 _ _ _ _ _ oa2 _ cap2 _ HO.out HK.out HB.out (by rfl) ho hb (KvsRd.plain _ nUnit 30 3 false rowUnit4) (by decide)
  clear HO HK HB HR ho hb
  have HO := Lib.hid ho3; have HK := Lib.hid hk3; have HB := Lib.hid hb3; have HRUN := Lib.hid hrun
  clear ho3 hk3 hb3 hrun
  go_wp2_with (at_builtin; refine wpList_append_run rfl _ _ 23 rfl HRUN.out rfl rfl ?_)
  clear HRUN
  have HR := Lib.hid (wordedR_any nService nType [115, 105, 109, 112, 108, 101, 32, 111, 110, 101, 115, 104, 111, 116, 32, 110, 111, 116, 105, 102, 121] wrdService0 w5 (by decide +kernel) (by decide +kernel) (by decide) (by decide) 2 (by decide))
  refine HR.out.mono ?_
  rintro e u6 ⟨v, wa, wc, rfl, ho, hws, hb⟩
  obtain ⟨oa2, cap2, rfl⟩ := ownsRow_form ho
  obtain ⟨vs3, oa3, cap3, w6, hrun, ho3, hk3, hb3⟩ := step_keys w0 w5 u6 _ _ _ _ _ oa2 _ cap2 _ HO.out HK.out HB.out (by rfl) ho hb (KvsRd.one (k := ⟨nService, nType, 10, false, 2, wrdService0⟩) ⟨rfl, rfl, rfl, rfl, rfl, rfl, .inr ⟨_, hws⟩⟩) (by decide)
  clear HO HK HB HR ho hb hws
  have HO := Lib.hid ho3; have HK := Lib.hid hk3; have HB := Lib.hid hb3; have HRUN := Lib.hid hrun
  clear ho3 hk3 hb3 hrun
  go_wp2_with (at_builtin; refine wpList_append_run rfl _ _ 23 rfl HRUN.out rfl rfl ?_)
  clear HRUN
  have HR := Lib.hid (rowR_any nService [69, 120, 101, 99, 83, 116, 97, 114, 116, 80, 114, 101, 32, 69, 120, 101, 99, 83, 116, 97, 114, 116, 32, 69, 120, 101, 99, 83, 116, 97, 114, 116, 80, 111, 115, 116, 32, 69, 120, 101, 99, 83, 116, 111, 112, 32, 69, 120, 101, 99, 82, 101, 108, 111, 97, 100] 7 true rowService1 w6 (by decide +kernel) (by decide) 2 (by decide))
  refine HR.out.mono ?_
  rintro e u7 ⟨v, rfl, ho, hb⟩
  obtain ⟨oa2, cap2, rfl⟩ := ownsRow_form ho
  obtain ⟨vs3, oa3, cap3, w7, hrun, ho3, hk3, hb3⟩ := step_keys w0 w6 u7 _ _ _ _ _ oa2 _ cap2 _ HO.out HK.out HB.out (by rfl) ho hb (KvsRd.plain _ nService 2 7 true rowService1) (by decide)
  clear HO HK HB HR ho hb
  have HO := Lib.hid ho3; have HK := Lib.hid hk3; have HB := Lib.hid hb3; have HRUN := Lib.hid hrun
  clear ho3 hk3 hb3 hrun
  go_wp2_with (at_builtin; refine wpList_append_run rfl _ _ 23 rfl HRUN.out rfl rfl ?_)
  clear HRUN
  have HR := Lib.hid (rowR_any nService [82, 101, 109, 97, 105, 110, 65, 102, 116, 101, 114, 69, 120, 105, 116] 2 false rowService2 w7 (by decide +kernel) (by decide) 2 (by decide))
  refine HR.out.mono ?_
  rintro e u8 ⟨v, rfl, ho, hb⟩
  obtain ⟨oa2, cap2, rfl⟩ := ownsRow_form ho
  obtain ⟨vs3, oa3, cap3, w8, hrun, ho3, hk3, hb3⟩ := step_keys w0 w7 u8 _ _ _ _ _ oa2 _ cap2 _ HO.out HK.out HB.out (by rfl) ho hb (KvsRd.plain _ nService 2 2 false rowService2) (by decide)
  clear HO HK HB HR ho hb
  have HO := Lib.hid ho3; have HK := Lib.hid hk3; have HB := Lib.hid hb3; have HRUN := Lib.hid hrun
  clear ho3 hk3 hb3 hrun
  go_wp2_with (at_builtin; refine wpList_append_run rfl _ _ 23 rfl HRUN.out rfl rfl ?_)
  clear HRUN
  have HR := Lib.hid (wordedR_any nService nRestart [110, 111, 32, 111, 110, 45, 115, 117, 99, 99, 101, 115, 115, 32, 111, 110, 45, 102, 97, 105, 108, 117, 114, 101, 32, 111, 110, 45, 97, 98, 110, 111, 114, 109, 97, 108, 32, 97, 108, 119, 97, 121, 115] wrdService3 w8 (by decide +kernel) (by decide +kernel) (by decide) (by decide) 2 (by decide))
  refine HR.out.mono ?_
  rintro e u9 ⟨v, wa, wc, rfl, ho, hws, hb⟩
  obtain ⟨oa2, cap2, rfl⟩ := ownsRow_form ho
  obtain ⟨vs3, oa3, cap3, w9, hrun, ho3, hk3, hb3⟩ := step_keys w0 w8 u9 _ _ _ _ _ oa2 _ cap2 _ HO.out HK.out HB.out (by rfl) ho hb (KvsRd.one (k := ⟨nService, nRestart, 10, false, 2, wrdService3⟩) ⟨rfl, rfl, rfl, rfl, rfl, rfl, .inr ⟨_, hws⟩⟩) (by decide)
  clear HO HK HB HR ho hb hws
  have HO := Lib.hid ho3; have HK := Lib.hid hk3; have HB := Lib.hid hb3; have HRUN := Lib.hid hrun
  clear ho3 hk3 hb3 hrun
  go_wp2_with (at_builtin; refine wpList_append_run rfl _ _ 23 rfl HRUN.out rfl rfl ?_)
  clear HRUN
  have HR := Lib.hid (rowR_any nService [82, 101, 115, 116, 97, 114, 116, 83, 101, 99, 32, 84, 105, 109, 101, 111, 117, 116, 83, 116, 97, 114, 116, 83, 101, 99, 32, 84, 105, 109, 101, 111, 117, 116, 83, 116, 111, 112, 83, 101, 99] 4 false rowService4 w9 (by decide +kernel) (by decide) 2 (by decide))
  refine HR.out.mono ?_
  rintro e u10 ⟨v, rfl, ho, hb⟩
  obtain ⟨oa2, cap2, rfl⟩ := ownsRow_form ho
  obtain ⟨vs3, oa3, cap3, w10, hrun, ho3, hk3, hb3⟩ := step_keys w0 w9 u10 _ _ _ _ _ oa2 _ cap2 _ HO.out HK.out HB.out (by rfl) ho hb (KvsRd.plain _ nService 2 4 false rowService4) (by decide)
  clear HO HK HB HR ho hb
  have HO := Lib.hid ho3; have HK := Lib.hid hk3; have HB := Lib.hid hb3; have HRUN := Lib.hid hrun
  clear ho3 hk3 hb3 hrun
  go_wp2_with (at_builtin; refine wpList_append_run rfl _ _ 23 rfl HRUN.out rfl rfl ?_)
  clear HRUN
  have HR := Lib.hid (rowR_any nService [83, 117, 99, 99, 101, 115, 115, 69, 120, 105, 116, 83, 116, 97, 116, 117, 115] 11 true rowService5 w10 (by decide +kernel) (by decide) 2 (by decide))
  refine HR.out.mono ?_
  rintro e u11 ⟨v, rfl, ho, hb⟩
  obtain ⟨oa2, cap2, rfl⟩ := ownsRow_form ho
  obtain ⟨vs3, oa3, cap3, w11, hrun, ho3, hk3, hb3⟩ := step_keys w0 w10 u11 _ _ _ _ _ oa2 _ cap2 _ HO.out HK.out HB.out (by rfl) ho hb (KvsRd.plain _ nService 2 11 true rowService5) (by decide)
  clear HO HK HB HR ho hb
  have HO := Lib.hid ho3; have HK := Lib.hid hk3; have HB := Lib.hid hb3; have HRUN := Lib.hid hrun
  clear ho3 hk3 hb3 hrun
  go_wp2_with (at_builtin; refine wpList_append_run rfl _ _ 23 rfl HRUN.out rfl rfl ?_)
  clear HRUN
  have HR := Lib.hid (rowR_any nService [69, 110, 118, 105, 114, 111, 110, 109, 101, 110, 116] 8 true rowService6 w11 (by decide +kernel) (by decide) 2 (by decide))
  refine HR.out.mono ?_
  rintro e u12 ⟨v, rfl, ho, hb⟩
  obtain ⟨oa2, cap2, rfl⟩ := ownsRow_form ho
  obtain ⟨vs3, oa3, cap3, w12, hrun, ho3, hk3, hb3⟩ := step_keys w0 w11 u12 _ _ _ _ _ oa2 _ cap2 _ HO.out HK.out HB.out (by rfl) ho hb (KvsRd.plain _ nService 2 8 true rowService6) (by decide)
  clear HO HK HB HR ho hb
  have HO := Lib.hid ho3; have HK := Lib.hid hk3; have HB := Lib.hid hb3; have HRUN := Lib.hid hrun
  clear ho3 hk3 hb3 hrun
  go_wp2_with (at_builtin; refine wpList_append_run rfl _ _ 23 rfl HRUN.out rfl rfl ?_)
  clear HRUN
  have HR := Lib.hid (rowR_any nService [83, 111, 99, 107, 101, 116, 115] 6 true rowService7 w12 (by decide +kernel) (by decide) 2 (by decide))
  refine HR.out.mono ?_
  rintro e u13 ⟨v, rfl, ho, hb⟩
  obtain ⟨oa2, cap2, rfl⟩ := ownsRow_form ho
  obtain ⟨vs3, oa3, cap3, w13, hrun, ho3, hk3, hb3⟩ := step_keys w0 w12 u13 _ _ _ _ _ oa2 _ cap2 _ HO.out HK.out HB.out (by rfl) ho hb (KvsRd.plain _ nService 2 6 true rowService7) (by decide)
  clear HO HK HB HR ho hb
  have HO := Lib.hid ho3; have HK := Lib.hid hk3; have HB := Lib.hid hb3; have HRUN := Lib.hid hrun
  clear ho3 hk3 hb3 hrun
  go_wp2_with (at_builtin; refine wpList_append_run rfl _ _ 23 rfl HRUN.out rfl rfl ?_)
  clear HRUN
  have HR := Lib.hid (rowR_any nSocket [76, 105, 115, 116, 101, 110, 83, 116, 114, 101, 97, 109] 11 true rowSocket0 w13 (by decide +kernel) (by decide) 4 (by decide))
  refine HR.out.mono ?_
  rintro e u14 ⟨v, rfl, ho, hb⟩
  obtain ⟨oa2, cap2, rfl⟩ := ownsRow_form ho
  obtain ⟨vs3, oa3, cap3, w14, hrun, ho3, hk3, hb3⟩ := step_keys w0 w13 u14 _ _ _ _ _ oa2 _ cap2 _ HO.out HK.out HB.out (by rfl) ho hb (KvsRd.plain _ nSocket 4 11 true rowSocket0) (by decide)
  clear HO HK HB HR ho hb
  have HO := Lib.hid ho3; have HK := Lib.hid hk3; have HB := Lib.hid hb3; have HRUN := Lib.hid hrun
  clear ho3 hk3 hb3 hrun
  go_wp2_with (at_builtin; refine wpList_append_run rfl _ _ 23 rfl HRUN.out rfl rfl ?_)
  clear HRUN
  have HR := Lib.hid (rowR_any nSocket [66, 97, 99, 107, 108, 111, 103] 3 false rowSocket1 w14 (by decide +kernel) (by decide) 4 (by decide))
  refine HR.out.mono ?_
  rintro e u15 ⟨v, rfl, ho, hb⟩
  obtain ⟨oa2, cap2, rfl⟩ := ownsRow_form ho
  obtain ⟨vs3, oa3, cap3, w15, hrun, ho3, hk3, hb3⟩ := step_keys w0 w14 u15 _ _ _ _ _ oa2 _ cap2 _ HO.out HK.out HB.out (by rfl) ho hb (KvsRd.plain _ nSocket 4 3 false rowSocket1) (by decide)
  clear HO HK HB HR ho hb
  have HO := Lib.hid ho3; have HK := Lib.hid hk3; have HB := Lib.hid hb3; have HRUN := Lib.hid hrun
  clear ho3 hk3 hb3 hrun
  go_wp2_with (at_builtin; refine wpList_append_run rfl _ _ 23 rfl HRUN.out rfl rfl ?_)
  clear HRUN
  have HR := Lib.hid (rowR_any nSocket [70, 105, 108, 101, 68, 101, 115, 99, 114, 105, 112, 116, 111, 114, 78, 97, 109, 101] 1 false rowSocket2 w15 (by decide +kernel) (by decide) 4 (by decide))
  refine HR.out.mono ?_
  rintro e u16 ⟨v, rfl, ho, hb⟩
  obtain ⟨oa2, cap2, rfl⟩ := ownsRow_form ho
  obtain ⟨vs3, oa3, cap3, w16, hrun, ho3, hk3, hb3⟩ := step_keys w0 w15 u16 _ _ _ _ _ oa2 _ cap2 _ HO.out HK.out HB.out (by rfl) ho hb (KvsRd.plain _ nSocket 4 1 false rowSocket2) (by decide)
  clear HO HK HB HR ho hb
  have HO := Lib.hid ho3; have HK := Lib.hid hk3; have HB := Lib.hid hb3; have HRUN := Lib.hid hrun
  clear ho3 hk3 hb3 hrun
  go_wp2_with (at_builtin; refine wpList_append_run rfl _ _ 23 rfl HRUN.out rfl rfl ?_)
  clear HRUN
  have HR := Lib.hid (rowR_any nSocket [83, 101, 114, 118, 105, 99, 101] 5 false rowSocket3 w16 (by decide +kernel) (by decide) 4 (by decide))
  refine HR.out.mono ?_
  rintro e u17 ⟨v, rfl, ho, hb⟩
  obtain ⟨oa2, cap2, rfl⟩ := ownsRow_form ho
  obtain ⟨vs3, oa3, cap3, w17, hrun, ho3, hk3, hb3⟩ := step_keys w0 w16 u17 _ _ _ _ _ oa2 _ cap2 _ HO.out HK.out HB.out (by rfl) ho hb (KvsRd.plain _ nSocket 4 5 false rowSocket3) (by decide)
  clear HO HK HB HR ho hb
  have HO := Lib.hid ho3; have HK := Lib.hid hk3; have HB := Lib.hid hb3; have HRUN := Lib.hid hrun
  clear ho3 hk3 hb3 hrun
  go_wp2_with (at_builtin; refine wpList_append_run rfl _ _ 23 rfl HRUN.out rfl rfl ?_)
  clear HRUN
  have HR := Lib.hid (rowR_any nTimer [79, 110, 66, 111, 111, 116, 83, 101, 99, 32, 79, 110, 65, 99, 116, 105, 118, 101, 83, 101, 99, 32, 79, 110, 85, 110, 105, 116, 73, 110, 97, 99, 116, 105, 118, 101, 83, 101, 99] 4 true rowTimer0 w17 (by decide +kernel) (by decide) 8 (by decide))
  refine HR.out.mono ?_
  rintro e u18 ⟨v, rfl, ho, hb⟩
  obtain ⟨oa2, cap2, rfl⟩ := ownsRow_form ho
  obtain ⟨vs3, oa3, cap3, w18, hrun, ho3, hk3, hb3⟩ := step_keys w0 w17 u18 _ _ _ _ _ oa2 _ cap2 _ HO.out HK.out HB.out (by rfl) ho hb (KvsRd.plain _ nTimer 8 4 true rowTimer0) (by decide)
  clear HO HK HB HR ho hb
  have HO := Lib.hid ho3; have HK := Lib.hid hk3; have HB := Lib.hid hb3; have HRUN := Lib.hid hrun
  clear ho3 hk3 hb3 hrun
  go_wp2_with (at_builtin; refine wpList_append_run rfl _ _ 23 rfl HRUN.out rfl rfl ?_)
  clear HRUN
  have HR := Lib.hid (rowR_any nTimer [79, 110, 67, 97, 108, 101, 110, 100, 97, 114] 9 true rowTimer1 w18 (by decide +kernel) (by decide) 8 (by decide))
  refine HR.out.mono ?_
  rintro e u19 ⟨v, rfl, ho, hb⟩
  obtain ⟨oa2, cap2, rfl⟩ := ownsRow_form ho
  obtain ⟨vs3, oa3, cap3, w19, hrun, ho3, hk3, hb3⟩ := step_keys w0 w18 u19 _ _ _ _ _ oa2 _ cap2 _ HO.out HK.out HB.out (by rfl) ho hb (KvsRd.plain _ nTimer 8 9 true rowTimer1) (by decide)
  clear HO HK HB HR ho hb
  have HO := Lib.hid ho3; have HK := Lib.hid hk3; have HB := Lib.hid hb3; have HRUN := Lib.hid hrun
  clear ho3 hk3 hb3 hrun
  go_wp2_with (at_builtin; refine wpList_append_run rfl _ _ 23 rfl HRUN.out rfl rfl ?_)
  clear HRUN
  have HR := Lib.hid (rowR_any nTimer [80, 101, 114, 115, 105, 115, 116, 101, 110, 116] 2 false rowTimer2 w19 (by decide +kernel) (by decide) 8 (by decide))
  refine HR.out.mono ?_
  rintro e u20 ⟨v, rfl, ho, hb⟩
  obtain ⟨oa2, cap2, rfl⟩ := ownsRow_form ho
  obtain ⟨vs3, oa3, cap3, w20, hrun, ho3, hk3, hb3⟩ := step_keys w0 w19 u20 _ _ _ _ _ oa2 _ cap2 _ HO.out HK.out HB.out (by rfl) ho hb (KvsRd.plain _ nTimer 8 2 false rowTimer2) (by decide)
  clear HO HK HB HR ho hb
  have HO := Lib.hid ho3; have HK := Lib.hid hk3; have HB := Lib.hid hb3; have HRUN := Lib.hid hrun
  clear ho3 hk3 hb3 hrun
  go_wp2_with (at_builtin; refine wpList_append_run rfl _ _ 23 rfl HRUN.out rfl rfl ?_)
  clear HRUN
  have HR := Lib.hid (rowR_any nTimer [85, 110, 105, 116] 5 false rowTimer3 w20 (by decide +kernel) (by decide) 8 (by decide))
  refine HR.out.mono ?_
  rintro e u21 ⟨v, rfl, ho, hb⟩
  obtain ⟨oa2, cap2, rfl⟩ := ownsRow_form ho
  obtain ⟨vs3, oa3, cap3, w21, hrun, ho3, hk3, hb3⟩ := step_keys w0 w20 u21 _ _ _ _ _ oa2 _ cap2 _ HO.out HK.out HB.out (by rfl) ho hb (KvsRd.plain _ nTimer 8 5 false rowTimer3) (by decide)
  clear HO HK HB HR ho hb
  have HO := Lib.hid ho3; have HK := Lib.hid hk3; have HB := Lib.hid hb3; have HRUN := Lib.hid hrun
  clear ho3 hk3 hb3 hrun
  go_wp2_with (at_builtin; refine wpList_append_run rfl _ _ 23 rfl HRUN.out rfl rfl ?_)
  clear HRUN
  have HR := Lib.hid (rowR_any nInstall [87, 97, 110, 116, 101, 100, 66, 121, 32, 82, 101, 113, 117, 105, 114, 101, 100, 66, 121, 32, 65, 108, 105, 97, 115, 32, 65, 108, 115, 111] 6 true rowInstall0 w21 (by decide +kernel) (by decide) 30 (by decide))
  refine HR.out.mono ?_
  rintro e u22 ⟨v, rfl, ho, hb⟩
  obtain ⟨oa2, cap2, rfl⟩ := ownsRow_form ho
  obtain ⟨vs3, oa3, cap3, w22, hrun, ho3, hk3, hb3⟩ := step_keys w0 w21 u22 _ _ _ _ _ oa2 _ cap2 _ HO.out HK.out HB.out (by rfl) ho hb (KvsRd.plain _ nInstall 30 6 true rowInstall0) (by decide)
  clear HO HK HB HR ho hb
  have HO := Lib.hid ho3; have HK := Lib.hid hk3; have HB := Lib.hid hb3; have HRUN := Lib.hid hrun
  clear ho3 hk3 hb3 hrun
  go_wp2_with (at_builtin; refine wpList_append_run rfl _ _ 23 rfl HRUN.out rfl rfl ?_)
  clear HRUN
  have HR := Lib.hid (rowR_any nInstall [68, 101, 102, 97, 117, 108, 116, 73, 110, 115, 116, 97, 110, 99, 101] 1 false rowInstall1 w22 (by decide +kernel) (by decide) 30 (by decide))
  refine HR.out.mono ?_
  rintro e u23 ⟨v, rfl, ho, hb⟩
  obtain ⟨oa2, cap2, rfl⟩ := ownsRow_form ho
  obtain ⟨vs3, oa3, cap3, w23, hrun, ho3, hk3, hb3⟩ := step_keys w0 w22 u23 _ _ _ _ _ oa2 _ cap2 _ HO.out HK.out HB.out (by rfl) ho hb (KvsRd.plain _ nInstall 30 1 false rowInstall1) (by decide)
  clear HO HK HB HR ho hb
  have HO := Lib.hid ho3; have HK := Lib.hid hk3; have HB := Lib.hid hb3; have HRUN := Lib.hid hrun
  clear ho3 hk3 hb3 hrun
  go_wp2_with (at_builtin; refine wpList_append_run rfl _ _ 23 rfl HRUN.out rfl rfl ?_)
  clear HRUN
  go_ret
  have hk := HK.out
  have e : (((((((((((((((((((((((([] : List KeyS) ++ keysOf nUnit 30 1 false rowUnit0) ++ keysOf nUnit 30 2 false rowUnit1) ++ keysOf nUnit 30 6 true rowUnit2) ++ keysOf nUnit 30 4 false rowUnit3) ++ keysOf nUnit 30 3 false rowUnit4) ++ [⟨nService, nType, 10, false, 2, wrdService0⟩]) ++ keysOf nService 2 7 true rowService1) ++ keysOf nService 2 2 false rowService2) ++ [⟨nService, nRestart, 10, false, 2, wrdService3⟩]) ++ keysOf nService 2 4 false rowService4) ++ keysOf nService 2 11 true rowService5) ++ keysOf nService 2 8 true rowService6) ++ keysOf nService 2 6 true rowService7) ++ keysOf nSocket 4 11 true rowSocket0) ++ keysOf nSocket 4 3 false rowSocket1) ++ keysOf nSocket 4 1 false rowSocket2) ++ keysOf nSocket 4 5 false rowSocket3) ++ keysOf nTimer 8 4 true rowTimer0) ++ keysOf nTimer 8 9 true rowTimer1) ++ keysOf nTimer 8 2 false rowTimer2) ++ keysOf nTimer 8 5 false rowTimer3) ++ keysOf nInstall 30 6 true rowInstall0) ++ keysOf nInstall 30 1 false rowInstall1) = allKeys := by decide
  rw [e] at hk
  have hl : vs3.length = 42 := hk.1.trans allKeys_len
  obtain rfl := HW.out
  refine ⟨oa3, cap3, vs3, by rw [hl]; rfl, RowRd.of_own (enc := encK) (k := 6) (fun _ => rfl) HO.out, hk, HB.out⟩
end Go.Proofs.YtdpnahojhmkemaaGreatDoor
