import Derived.Test.YtdjkedcpehhmnaaGreatDoorUS16
namespace Go.Proofs.YtdjkedcpehhmnaaGreatDoor
open Go Go.RowKit
set_option linter.unusedVariables false
set_option linter.unusedSimpArgs false
set_option maxRecDepth 100000
structure KvRd (w : World) (v : KeyV) (k : KeyS) : Prop where
 sec : v.sec = k.sec
 name : v.name = k.name
 form : v.form = k.form
 list : v.list = k.list
 kinds : v.kinds = k.kinds
 wl : v.wn = k.words.length
 ww : k.words = [] ∨ ∃ B, w.ownsRow B 9 1 (.slice v.wa v.wn v.wc) v.wn (strVals k.words)
theorem KvRd.below {w w' : World} {v : KeyV} {k : KeyS} (h : KvRd w v k) (hb : Below w.heap.size w w') : KvRd w' v k :=
 {h with ww := h.ww.imp id fun ⟨B, q⟩ => ⟨B, own_keeps q hb⟩ }
theorem KvRd.frb {w w' : World} {P B : Nat} {cs : Array Value} {v : KeyV} {k : KeyS} (h : KvRd w v k) (hf : FrB P B 41 w w') (hP : w.heap[P]? = some (.cells cs 158 (0, 0))) : KvRd w' v k :=
 {h with ww := h.ww.imp id fun ⟨B', q⟩ => ⟨B', own_frb q hf (by decide) (fun e => own_not_box q hP (by decide) e.symm)⟩ }
theorem KvRd.row {w : World} {v : KeyV} {k : KeyS} (h : KvRd w v k) : StrRow w v.wa k.words := by
 rcases h.ww with e | ⟨B, q⟩
 ·rw [e]; exact StrRow.nil _ _
 ·rw [h.wl] at q; exact StrRow.of_own q
def KvsRd (w : World) (vs : List KeyV) (ks : List KeyS) : Prop := vs.length = ks.length ∧ ∀ i (h1 : i < vs.length) (h2 : i < ks.length), KvRd w vs[i] ks[i]
theorem KvsRd.below {w w' : World} {vs : List KeyV} {ks : List KeyS} (h : KvsRd w vs ks) (hb : Below w.heap.size w w') : KvsRd w' vs ks := ⟨h.1, fun i h1 h2 => (h.2 i h1 h2).below hb⟩
theorem KvsRd.frb {w w' : World} {P B : Nat} {cs : Array Value} {vs : List KeyV} {ks : List KeyS} (h : KvsRd w vs ks) (hf : FrB P B 41 w w') (hP : w.heap[P]? = some (.cells cs 158 (0, 0))) : KvsRd w' vs ks := ⟨h.1, fun i h1 h2 => (h.2 i h1 h2).frb hf hP⟩
theorem KvsRd.append {w : World} {a c : List KeyV} {b d : List KeyS} (h : KvsRd w a b) (g : KvsRd w c d) : KvsRd w (a ++ c) (b ++ d) := by
 refine ⟨by simp [h.1, g.1], fun i h1 h2 => ?_⟩
 by_cases q : i < a.length
 ·rw [List.getElem_append_left q, List.getElem_append_left (by rw [← h.1]; exact q)]; exact h.2 i q (by rw [← h.1]; exact q)
 ·rw [List.getElem_append_right (by omega), List.getElem_append_right (by rw [← h.1]; omega)]
  simp only [← h.1]
  exact g.2 _ _ _
theorem KvsRd.plain (w : World) (sec : Str) (kinds form : Int) (list : Bool) (names : List Str) : KvsRd w (names.map (plainK sec kinds form list)) (keysOf sec kinds form list names) := by
 unfold keysOf
 refine ⟨by simp, fun i h1 h2 => ?_⟩
 rw [List.getElem_map, List.getElem_map]
 exact ⟨rfl, rfl, rfl, rfl, rfl, rfl, .inl rfl⟩
theorem KvsRd.one {w : World} {v : KeyV} {k : KeyS} (h : KvRd w v k) : KvsRd w [v] [k] := ⟨rfl, fun i h1 h2 => by
 have : i = 0 := by simp at h1; omega
 subst this; exact h⟩
theorem KvsRd.nil (w : World) : KvsRd w [] [] := ⟨rfl, fun i h1 _ => absurd h1 (by simp)⟩
theorem GrpAt.later {w w' : World} {P B P' B' : Nat} {sec : Str} {kinds : Int} {kvs : List KeyV} (h : GrpAt w P B sec kinds kvs) (hf : FrB P' B' 41 w w') (hB : w.heap.size ≤ B') (hP : P ≠ P') {cs : Array Value} (hbx : w.heap[P']? = some (.cells cs 158 (0, 0))) : GrpAt w' P B sec kinds kvs := by
 obtain ⟨ga, gc, h1, h2⟩ := h.ex
 have hk : ∀ k o, w.heap[k]? = some o → k ≠ P' → w'.heap[k]? = some o := fun k o ho hne => by
  rw [hf.block k (lt_heap ho) (by rintro (q | ⟨q, _⟩); exact hne q; have := lt_heap ho; omega)]; exact ho
 refine ⟨ga, gc, hk P _ h1 hP, h2.1, ?_⟩
 rcases h2.2 with hn | ⟨g, cp, cur, hv, hg, hgg, rest⟩
 ·exact .inl hn
 ·refine .inr ⟨g, cp, cur, hv, hg, hk g _ hgg (fun e => ?_), rest⟩
  rw [e, hbx] at hgg
  simp at hgg
theorem GrpAt.none {w : World} {P B : Nat} {sec : Str} {kinds : Int} (h : w.heap[P]? = some (.cells #[.string ⟨sec.toArray⟩, .int .i64 kinds, .slice none 0 0] 158 (0, 0))) : GrpAt w P B sec kinds [] := ⟨Option.none, 0, h, World.ownsRow_nil _ _ _ _⟩
theorem GrpAt.rowOf {w : World} {P B : Nat} {sec : Str} {kinds : Int} {kvs : List KeyV} (h : GrpAt w P B sec kinds kvs) : ∃ ga gc, w.heap[P]? = some (.cells #[.string ⟨sec.toArray⟩, .int .i64 kinds, .slice ga kvs.length gc] 158 (0, 0)) ∧ RowRd encK 6 w ga kvs := by
 obtain ⟨ga, gc, h1, h2⟩ := h.ex
 exact ⟨ga, gc, h1, RowRd.of_own (enc := encK) (k := 6) (fun _ => rfl) h2⟩
def AllOut (w : World) (e : Ending) (w' : World) : Prop := ∃ oa cap vs, e = .returned (.slice oa 42 cap) ∧ RowRd encK 6 w' oa vs ∧ KvsRd w' vs allKeys ∧ Below w.heap.size w w'
theorem boxes5 (w : World) (a b c d e : Obj) : ∃ v, v = ((((w.alloc a).alloc b).alloc c).alloc d).alloc e ∧ Below w.heap.size w v ∧ v.heap.size = w.heap.size + 1 + 1 + 1 + 1 + 1 ∧
  v.heap[w.heap.size]? = some a ∧ v.heap[w.heap.size + 1]? = some b ∧ v.heap[w.heap.size + 1 + 1]? = some c ∧ v.heap[w.heap.size + 1 + 1 + 1]? = some d ∧ v.heap[w.heap.size + 1 + 1 + 1 + 1]? = some e := by
 have z1 : (w.alloc a).heap.size = w.heap.size + 1 := Array.size_push _
 have z2 : ((w.alloc a).alloc b).heap.size = w.heap.size + 1 + 1 := (Array.size_push _).trans (by rw [z1])
 have z3 : (((w.alloc a).alloc b).alloc c).heap.size = w.heap.size + 1 + 1 + 1 := (Array.size_push _).trans (by rw [z2])
 have z4 : ((((w.alloc a).alloc b).alloc c).alloc d).heap.size = w.heap.size + 1 + 1 + 1 + 1 := (Array.size_push _).trans (by rw [z3])
 have z5 : (((((w.alloc a).alloc b).alloc c).alloc d).alloc e).heap.size = w.heap.size + 1 + 1 + 1 + 1 + 1 := (Array.size_push _).trans (by rw [z4])
 have h0 := heap_alloc_new w a
 have h1 := heap_alloc_new (w.alloc a) b
 have h2 := heap_alloc_new ((w.alloc a).alloc b) c
 have h3 := heap_alloc_new (((w.alloc a).alloc b).alloc c) d
 have h4 := heap_alloc_new ((((w.alloc a).alloc b).alloc c).alloc d) e
 rw [z1] at h1; rw [z2] at h2; rw [z3] at h3; rw [z4] at h4
 refine ⟨_, rfl, ?_, z5, heap_alloc (heap_alloc (heap_alloc (heap_alloc h0 b) c) d) e, heap_alloc (heap_alloc (heap_alloc h1 c) d) e, heap_alloc (heap_alloc h2 d) e, heap_alloc h3 e, h4⟩
 exact (((((Below.refl w.heap.size w).alloc (Nat.le_refl _) a).alloc (by omega) b).alloc (by omega) c).alloc (by omega) d).alloc (by omega) e
set_option maxHeartbeats 8000000 in
theorem keysAll_any (w : World) : Calls Tryz.prog 79 #[] w fun e w' => AllOut w e w' := by
 obtain ⟨w0, hw0, hb0, hz0, x0, x1, x2, x3, x4⟩ := boxes5 w (.cells #[.string ⟨nUnit.toArray⟩, .int .i64 30, .slice none 0 0] 158) (.cells #[.string ⟨nService.toArray⟩, .int .i64 2, .slice none 0 0] 158) (.cells #[.string ⟨nSocket.toArray⟩, .int .i64 4, .slice none 0 0] 158) (.cells #[.string ⟨nTimer.toArray⟩, .int .i64 8, .slice none 0 0] 158) (.cells #[.string ⟨nInstall.toArray⟩, .int .i64 30, .slice none 0 0] 158)
 go_enter Tryz.func79, Tryz.ntmps79
 go_wp2_with fail
 rw [← hw0]
 have HBW := h_ hb0
 obtain ⟨Z, hZ⟩ : ∃ Z, Z = w.heap.size := ⟨_, rfl⟩
 rw [← hZ] at x0 x1 x2 x3 x4 hz0 HBW ⊢
 have HZ := h_ hZ
 clear hw0 hb0 hZ
 obtain ⟨P0, hp0⟩ : ∃ q, q = Z := ⟨_, rfl⟩
 have HP0 := h_ hp0
 rw [← hp0] at x0 x1 x2 x3 x4 hz0 ⊢
 generalize hp1 : P0 + 1 = P1 at *
 generalize hp2 : P1 + 1 = P2 at *
 generalize hp3 : P2 + 1 = P3 at *
 generalize hp4 : P3 + 1 = P4 at *
 rw [← hz0]
 have HSZ := h_ (show Z ≤ P0 ∧ P0 < P1 ∧ P1 < P2 ∧ P2 < P3 ∧ P3 < P4 ∧ P4 < w0.heap.size by omega)
 have X0 := h_ x0; have X1 := h_ x1; have X2 := h_ x2; have X3 := h_ x3; have X4 := h_ x4
 clear x0 x1 x2 x3 x4 hz0 hp0 hp1 hp2 hp3 hp4
 obtain ⟨B0, hB0⟩ : ∃ B, B = w0.heap.size := ⟨_, rfl⟩
 have HBe0 := h_ hB0
 clear hB0
 have HPB := h_ (show P0 < B0 by have := HSZ.out; have := HBe0.out; omega)
 have HG := h_ (GrpAt.none (B := B0) X0.out)
 have HK := h_ (KvsRd.nil w0)
 have HF := h_ (FrB.refl P0 B0 41 w0)
 obtain ⟨ks, hks⟩ : ∃ z : List KeyV, z = [] := ⟨_, rfl⟩
 rw [← hks] at HG HK
 have HL := h_ (show ks.length = 0 by rw [hks]; rfl)
 clear hks
 have hba := (Below.refl w0.heap.size w0).alloc (Nat.le_refl _) (.cells (strVals rowUnit0).toArray 9)
 have HGa := h_ (HG.out.below hba)
 have HKa := h_ (HK.out.below hba)
 have HFa := h_ (HF.out.alloc (.cells (strVals rowUnit0).toArray 9))
 have hsz := Nat.le_trans (show B0 ≤ w0.heap.size from by rw [HBe0.out]; exact HF.out.size) hba.size
 obtain ⟨_, _, hbx, -⟩ := HGa.out.ex
 have HBX := h_ hbx
 clear hba hbx HG HK HF
 refine (some_any P0 B0 nUnit 30 1 false ks w0.heap.size 1 rowUnit0 (w0.alloc (.cells (strVals rowUnit0).toArray 9)) HGa.out HPB.out hsz (heap_alloc_new w0 (.cells (strVals rowUnit0).toArray 9)) (by decide) (by have := HL.out; omega)).mono ?_
 rintro e w1 ⟨rfl, hg, hf⟩
 obtain ⟨ks2, hks2⟩ : ∃ z, z = ks ++ rowUnit0.map (plainK nUnit 30 1 false) := ⟨_, rfl⟩
 rw [← hks2] at hg
 have HK2 := h_ (show KvsRd w1 ks2 (([] : List KeyS) ++ keysOf nUnit 30 1 false rowUnit0) from by rw [hks2]; exact KvsRd.append (HKa.out.frb hf HBX.out) (KvsRd.plain _ _ _ _ _ _))
 have HL2 := h_ (show ks2.length = 1 by rw [hks2, List.length_append, HL.out]; rfl)
 have HG := h_ hg
 have HK := HK2
 have HF := h_ (HFa.out.trans hf)
 clear hks2 HK2 HL hg hf HGa HKa HFa HBX hsz
 obtain ⟨ks, rfl⟩ : ∃ z, z = ks2 := ⟨_, rfl⟩
 have HL := HL2
 clear HL2
 go_wp2_with fail
 have hba := (Below.refl w1.heap.size w1).alloc (Nat.le_refl _) (.cells (strVals rowUnit1).toArray 9)
 have HGa := h_ (HG.out.below hba)
 have HKa := h_ (HK.out.below hba)
 have HFa := h_ (HF.out.alloc (.cells (strVals rowUnit1).toArray 9))
 have hsz := Nat.le_trans (show B0 ≤ w1.heap.size from by rw [HBe0.out]; exact HF.out.size) hba.size
 obtain ⟨_, _, hbx, -⟩ := HGa.out.ex
 have HBX := h_ hbx
 clear hba hbx HG HK HF
 refine (some_any P0 B0 nUnit 30 2 false ks w1.heap.size 1 rowUnit1 (w1.alloc (.cells (strVals rowUnit1).toArray 9)) HGa.out HPB.out hsz (heap_alloc_new w1 (.cells (strVals rowUnit1).toArray 9)) (by decide) (by have := HL.out; omega)).mono ?_
 rintro e w2 ⟨rfl, hg, hf⟩
 obtain ⟨ks2, hks2⟩ : ∃ z, z = ks ++ rowUnit1.map (plainK nUnit 30 2 false) := ⟨_, rfl⟩
 rw [← hks2] at hg
 have HK2 := h_ (show KvsRd w2 ks2 ((([] : List KeyS) ++ keysOf nUnit 30 1 false rowUnit0) ++ keysOf nUnit 30 2 false rowUnit1) from by rw [hks2]; exact KvsRd.append (HKa.out.frb hf HBX.out) (KvsRd.plain _ _ _ _ _ _))
 have HL2 := h_ (show ks2.length = 2 by rw [hks2, List.length_append, HL.out]; rfl)
 have HG := h_ hg
 have HK := HK2
 have HF := h_ (HFa.out.trans hf)
 clear hks2 HK2 HL hg hf HGa HKa HFa HBX hsz
 obtain ⟨ks, rfl⟩ : ∃ z, z = ks2 := ⟨_, rfl⟩
 have HL := HL2
 clear HL2
 go_wp2_with fail
 have hba := (Below.refl w2.heap.size w2).alloc (Nat.le_refl _) (.cells (strVals rowUnit2).toArray 9)
 have HGa := h_ (HG.out.below hba)
 have HKa := h_ (HK.out.below hba)
 have HFa := h_ (HF.out.alloc (.cells (strVals rowUnit2).toArray 9))
 have hsz := Nat.le_trans (show B0 ≤ w2.heap.size from by rw [HBe0.out]; exact HF.out.size) hba.size
 obtain ⟨_, _, hbx, -⟩ := HGa.out.ex
 have HBX := h_ hbx
 clear hba hbx HG HK HF
 refine (some_any P0 B0 nUnit 30 6 true ks w2.heap.size 9 rowUnit2 (w2.alloc (.cells (strVals rowUnit2).toArray 9)) HGa.out HPB.out hsz (heap_alloc_new w2 (.cells (strVals rowUnit2).toArray 9)) (by decide) (by have := HL.out; omega)).mono ?_
 rintro e w3 ⟨rfl, hg, hf⟩
 obtain ⟨ks2, hks2⟩ : ∃ z, z = ks ++ rowUnit2.map (plainK nUnit 30 6 true) := ⟨_, rfl⟩
 rw [← hks2] at hg
 have HK2 := h_ (show KvsRd w3 ks2 (((([] : List KeyS) ++ keysOf nUnit 30 1 false rowUnit0) ++ keysOf nUnit 30 2 false rowUnit1) ++ keysOf nUnit 30 6 true rowUnit2) from by rw [hks2]; exact KvsRd.append (HKa.out.frb hf HBX.out) (KvsRd.plain _ _ _ _ _ _))
 have HL2 := h_ (show ks2.length = 11 by rw [hks2, List.length_append, HL.out]; rfl)
 have HG := h_ hg
 have HK := HK2
 have HF := h_ (HFa.out.trans hf)
 clear hks2 HK2 HL hg hf HGa HKa HFa HBX hsz
 obtain ⟨ks, rfl⟩ : ∃ z, z = ks2 := ⟨_, rfl⟩
 have HL := HL2
 clear HL2
 go_wp2_with fail
 have hba := (Below.refl w3.heap.size w3).alloc (Nat.le_refl _) (.cells (strVals rowUnit3).toArray 9)
 have HGa := h_ (HG.out.below hba)
 have HKa := h_ (HK.out.below hba)
 have HFa := h_ (HF.out.alloc (.cells (strVals rowUnit3).toArray 9))
 have hsz := Nat.le_trans (show B0 ≤ w3.heap.size from by rw [HBe0.out]; exact HF.out.size) hba.size
 obtain ⟨_, _, hbx, -⟩ := HGa.out.ex
 have HBX := h_ hbx
 clear hba hbx HG HK HF
 refine (some_any P0 B0 nUnit 30 4 false ks w3.heap.size 1 rowUnit3 (w3.alloc (.cells (strVals rowUnit3).toArray 9)) HGa.out HPB.out hsz (heap_alloc_new w3 (.cells (strVals rowUnit3).toArray 9)) (by decide) (by have := HL.out; omega)).mono ?_
 rintro e w4 ⟨rfl, hg, hf⟩
 obtain ⟨ks2, hks2⟩ : ∃ z, z = ks ++ rowUnit3.map (plainK nUnit 30 4 false) := ⟨_, rfl⟩
 rw [← hks2] at hg
 have HK2 := h_ (show KvsRd w4 ks2 ((((([] : List KeyS) ++ keysOf nUnit 30 1 false rowUnit0) ++ keysOf nUnit 30 2 false rowUnit1) ++ keysOf nUnit 30 6 true rowUnit2) ++ keysOf nUnit 30 4 false rowUnit3) from by rw [hks2]; exact KvsRd.append (HKa.out.frb hf HBX.out) (KvsRd.plain _ _ _ _ _ _))
 have HL2 := h_ (show ks2.length = 12 by rw [hks2, List.length_append, HL.out]; rfl)
 have HG := h_ hg
 have HK := HK2
 have HF := h_ (HFa.out.trans hf)
 clear hks2 HK2 HL hg hf HGa HKa HFa HBX hsz
 obtain ⟨ks, rfl⟩ : ∃ z, z = ks2 := ⟨_, rfl⟩
 have HL := HL2
 clear HL2
 go_wp2_with fail
 have hba := (Below.refl w4.heap.size w4).alloc (Nat.le_refl _) (.cells (strVals rowUnit4).toArray 9)
 have HGa := h_ (HG.out.below hba)
 have HKa := h_ (HK.out.below hba)
 have HFa := h_ (HF.out.alloc (.cells (strVals rowUnit4).toArray 9))
 have hsz := Nat.le_trans (show B0 ≤ w4.heap.size from by rw [HBe0.out]; exact HF.out.size) hba.size
 obtain ⟨_, _, hbx, -⟩ := HGa.out.ex
 have HBX := h_ hbx
 clear hba hbx HG HK HF
 refine (some_any P0 B0 nUnit 30 3 false ks w4.heap.size 1 rowUnit4 (w4.alloc (.cells (strVals rowUnit4).toArray 9)) HGa.out HPB.out hsz (heap_alloc_new w4 (.cells (strVals rowUnit4).toArray 9)) (by decide) (by have := HL.out; omega)).mono ?_
 rintro e w5 ⟨rfl, hg, hf⟩
 obtain ⟨ks2, hks2⟩ : ∃ z, z = ks ++ rowUnit4.map (plainK nUnit 30 3 false) := ⟨_, rfl⟩
 rw [← hks2] at hg
 have HK2 := h_ (show KvsRd w5 ks2 (((((([] : List KeyS) ++ keysOf nUnit 30 1 false rowUnit0) ++ keysOf nUnit 30 2 false rowUnit1) ++ keysOf nUnit 30 6 true rowUnit2) ++ keysOf nUnit 30 4 false rowUnit3) ++ keysOf nUnit 30 3 false rowUnit4) from by rw [hks2]; exact KvsRd.append (HKa.out.frb hf HBX.out) (KvsRd.plain _ _ _ _ _ _))
 have HL2 := h_ (show ks2.length = 13 by rw [hks2, List.length_append, HL.out]; rfl)
 have HG := h_ hg
 have HK := HK2
 have HF := h_ (HFa.out.trans hf)
 clear hks2 HK2 HL hg hf HGa HKa HFa HBX hsz
 obtain ⟨ks, rfl⟩ : ∃ z, z = ks2 := ⟨_, rfl⟩
 have HL := HL2
 clear HL2
 go_wp2_with fail
 obtain ⟨K0, rfl⟩ : ∃ z, z = ks := ⟨_, rfl⟩
 have HG0 := HG
 have HK0 := h_ (show KvsRd w5 K0 keysUnit from HK.out)
 have HL0 := HL
 have HBn := h_ (HBW.out.trans (HF.out.below Z (by have := HSZ.out; have := HBe0.out; omega) (by have := HSZ.out; omega) (by have := HSZ.out; omega)))
 have HSn := h_ (show Z ≤ P0 ∧ P0 < P1 ∧ P1 < P2 ∧ P2 < P3 ∧ P3 < P4 ∧ P4 < w5.heap.size by have := HSZ.out; have := HF.out.size; omega)
 have Xq := h_ (HF.out.heap X1.out (by have := HSZ.out; omega) (by decide))
 clear X1
 have X1 := Xq
 clear Xq
 have Xq := h_ (HF.out.heap X2.out (by have := HSZ.out; omega) (by decide))
 clear X2
 have X2 := Xq
 clear Xq
 have Xq := h_ (HF.out.heap X3.out (by have := HSZ.out; omega) (by decide))
 clear X3
 have X3 := Xq
 clear Xq
 have Xq := h_ (HF.out.heap X4.out (by have := HSZ.out; omega) (by decide))
 clear X4
 have X4 := Xq
 clear Xq
 clear HG HK HL HF HBW HSZ HPB HBe0 X0
 have HBW := HBn; have HSZ := HSn
 clear HBn HSn
 obtain ⟨B1, hB1⟩ : ∃ B, B = w5.heap.size := ⟨_, rfl⟩
 have HBe1 := h_ hB1
 clear hB1
 have HPB := h_ (show P1 < B1 by have := HSZ.out; have := HBe1.out; omega)
 have HG := h_ (GrpAt.none (B := B1) X1.out)
 have HK := h_ (KvsRd.nil w5)
 have HF := h_ (FrB.refl P1 B1 41 w5)
 obtain ⟨ks, hks⟩ : ∃ z : List KeyV, z = [] := ⟨_, rfl⟩
 rw [← hks] at HG HK
 have HL := h_ (show ks.length = 0 by rw [hks]; rfl)
 clear hks
 have hba := (Below.refl w5.heap.size w5).alloc (Nat.le_refl _) (.cells (strVals wrdService0).toArray 9)
 have HGa := h_ (HG.out.below hba)
 have HKa := h_ (HK.out.below hba)
 have HFa := h_ (HF.out.alloc (.cells (strVals wrdService0).toArray 9))
 have hsz := Nat.le_trans (show B1 ≤ w5.heap.size from by rw [HBe1.out]; exact HF.out.size) hba.size
 obtain ⟨_, _, hbx, -⟩ := HGa.out.ex
 have HBX := h_ hbx
 clear hba hbx HG HK HF
 refine (word_any P1 B1 nService 2 ks nType w5.heap.size 3 wrdService0 (w5.alloc (.cells (strVals wrdService0).toArray 9)) HGa.out HPB.out hsz (heap_alloc_new w5 (.cells (strVals wrdService0).toArray 9)) (by decide) (by have := HL.out; omega)).mono ?_
 rintro e w6 ⟨rfl, kv, ⟨e1, e2, e3, e4, e5⟩, hwd, hg, hf⟩
 obtain ⟨ks2, hks2⟩ : ∃ z, z = ks ++ [kv] := ⟨_, rfl⟩
 rw [← hks2] at hg
 have HK2 := h_ (show KvsRd w6 ks2 (([] : List KeyS) ++ [⟨nService, nType, 10, false, 2, wrdService0⟩]) from by rw [hks2]; exact KvsRd.append (HKa.out.frb hf HBX.out) (KvsRd.one ⟨e1, e2, e3, e4, e5, hwd.1, .inr ⟨_, hwd.2⟩⟩))
 clear e1 e2 e3 e4 e5 hwd
 have HL2 := h_ (show ks2.length = 1 by rw [hks2, List.length_append, HL.out]; rfl)
 have HG := h_ hg
 have HK := HK2
 have HF := h_ (HFa.out.trans hf)
 clear hks2 HK2 HL hg hf HGa HKa HFa HBX hsz
 obtain ⟨ks, rfl⟩ : ∃ z, z = ks2 := ⟨_, rfl⟩
 have HL := HL2
 clear HL2
 go_wp2_with fail
 have hba := (Below.refl w6.heap.size w6).alloc (Nat.le_refl _) (.cells (strVals rowService1).toArray 9)
 have HGa := h_ (HG.out.below hba)
 have HKa := h_ (HK.out.below hba)
 have HFa := h_ (HF.out.alloc (.cells (strVals rowService1).toArray 9))
 have hsz := Nat.le_trans (show B1 ≤ w6.heap.size from by rw [HBe1.out]; exact HF.out.size) hba.size
 obtain ⟨_, _, hbx, -⟩ := HGa.out.ex
 have HBX := h_ hbx
 clear hba hbx HG HK HF
 refine (some_any P1 B1 nService 2 7 true ks w6.heap.size 5 rowService1 (w6.alloc (.cells (strVals rowService1).toArray 9)) HGa.out HPB.out hsz (heap_alloc_new w6 (.cells (strVals rowService1).toArray 9)) (by decide) (by have := HL.out; omega)).mono ?_
 rintro e w7 ⟨rfl, hg, hf⟩
 obtain ⟨ks2, hks2⟩ : ∃ z, z = ks ++ rowService1.map (plainK nService 2 7 true) := ⟨_, rfl⟩
 rw [← hks2] at hg
 have HK2 := h_ (show KvsRd w7 ks2 ((([] : List KeyS) ++ [⟨nService, nType, 10, false, 2, wrdService0⟩]) ++ keysOf nService 2 7 true rowService1) from by rw [hks2]; exact KvsRd.append (HKa.out.frb hf HBX.out) (KvsRd.plain _ _ _ _ _ _))
 have HL2 := h_ (show ks2.length = 6 by rw [hks2, List.length_append, HL.out]; rfl)
 have HG := h_ hg
 have HK := HK2
 have HF := h_ (HFa.out.trans hf)
 clear hks2 HK2 HL hg hf HGa HKa HFa HBX hsz
 obtain ⟨ks, rfl⟩ : ∃ z, z = ks2 := ⟨_, rfl⟩
 have HL := HL2
 clear HL2
 go_wp2_with fail
 have hba := (Below.refl w7.heap.size w7).alloc (Nat.le_refl _) (.cells (strVals rowService2).toArray 9)
 have HGa := h_ (HG.out.below hba)
 have HKa := h_ (HK.out.below hba)
 have HFa := h_ (HF.out.alloc (.cells (strVals rowService2).toArray 9))
 have hsz := Nat.le_trans (show B1 ≤ w7.heap.size from by rw [HBe1.out]; exact HF.out.size) hba.size
 obtain ⟨_, _, hbx, -⟩ := HGa.out.ex
 have HBX := h_ hbx
 clear hba hbx HG HK HF
 refine (some_any P1 B1 nService 2 2 false ks w7.heap.size 1 rowService2 (w7.alloc (.cells (strVals rowService2).toArray 9)) HGa.out HPB.out hsz (heap_alloc_new w7 (.cells (strVals rowService2).toArray 9)) (by decide) (by have := HL.out; omega)).mono ?_
 rintro e w8 ⟨rfl, hg, hf⟩
 obtain ⟨ks2, hks2⟩ : ∃ z, z = ks ++ rowService2.map (plainK nService 2 2 false) := ⟨_, rfl⟩
 rw [← hks2] at hg
 have HK2 := h_ (show KvsRd w8 ks2 (((([] : List KeyS) ++ [⟨nService, nType, 10, false, 2, wrdService0⟩]) ++ keysOf nService 2 7 true rowService1) ++ keysOf nService 2 2 false rowService2) from by rw [hks2]; exact KvsRd.append (HKa.out.frb hf HBX.out) (KvsRd.plain _ _ _ _ _ _))
 have HL2 := h_ (show ks2.length = 7 by rw [hks2, List.length_append, HL.out]; rfl)
 have HG := h_ hg
 have HK := HK2
 have HF := h_ (HFa.out.trans hf)
 clear hks2 HK2 HL hg hf HGa HKa HFa HBX hsz
 obtain ⟨ks, rfl⟩ : ∃ z, z = ks2 := ⟨_, rfl⟩
 have HL := HL2
 clear HL2
 go_wp2_with fail
 have hba := (Below.refl w8.heap.size w8).alloc (Nat.le_refl _) (.cells (strVals wrdService3).toArray 9)
 have HGa := h_ (HG.out.below hba)
 have HKa := h_ (HK.out.below hba)
 have HFa := h_ (HF.out.alloc (.cells (strVals wrdService3).toArray 9))
 have hsz := Nat.le_trans (show B1 ≤ w8.heap.size from by rw [HBe1.out]; exact HF.out.size) hba.size
 obtain ⟨_, _, hbx, -⟩ := HGa.out.ex
 have HBX := h_ hbx
 clear hba hbx HG HK HF
 refine (word_any P1 B1 nService 2 ks nRestart w8.heap.size 5 wrdService3 (w8.alloc (.cells (strVals wrdService3).toArray 9)) HGa.out HPB.out hsz (heap_alloc_new w8 (.cells (strVals wrdService3).toArray 9)) (by decide) (by have := HL.out; omega)).mono ?_
 rintro e w9 ⟨rfl, kv, ⟨e1, e2, e3, e4, e5⟩, hwd, hg, hf⟩
 obtain ⟨ks2, hks2⟩ : ∃ z, z = ks ++ [kv] := ⟨_, rfl⟩
 rw [← hks2] at hg
 have HK2 := h_ (show KvsRd w9 ks2 ((((([] : List KeyS) ++ [⟨nService, nType, 10, false, 2, wrdService0⟩]) ++ keysOf nService 2 7 true rowService1) ++ keysOf nService 2 2 false rowService2) ++ [⟨nService, nRestart, 10, false, 2, wrdService3⟩]) from by rw [hks2]; exact KvsRd.append (HKa.out.frb hf HBX.out) (KvsRd.one ⟨e1, e2, e3, e4, e5, hwd.1, .inr ⟨_, hwd.2⟩⟩))
 clear e1 e2 e3 e4 e5 hwd
 have HL2 := h_ (show ks2.length = 8 by rw [hks2, List.length_append, HL.out]; rfl)
 have HG := h_ hg
 have HK := HK2
 have HF := h_ (HFa.out.trans hf)
 clear hks2 HK2 HL hg hf HGa HKa HFa HBX hsz
 obtain ⟨ks, rfl⟩ : ∃ z, z = ks2 := ⟨_, rfl⟩
 have HL := HL2
 clear HL2
 go_wp2_with fail
 have hba := (Below.refl w9.heap.size w9).alloc (Nat.le_refl _) (.cells (strVals rowService4).toArray 9)
 have HGa := h_ (HG.out.below hba)
 have HKa := h_ (HK.out.below hba)
 have HFa := h_ (HF.out.alloc (.cells (strVals rowService4).toArray 9))
 have hsz := Nat.le_trans (show B1 ≤ w9.heap.size from by rw [HBe1.out]; exact HF.out.size) hba.size
 obtain ⟨_, _, hbx, -⟩ := HGa.out.ex
 have HBX := h_ hbx
 clear hba hbx HG HK HF
 refine (some_any P1 B1 nService 2 4 false ks w9.heap.size 3 rowService4 (w9.alloc (.cells (strVals rowService4).toArray 9)) HGa.out HPB.out hsz (heap_alloc_new w9 (.cells (strVals rowService4).toArray 9)) (by decide) (by have := HL.out; omega)).mono ?_
 rintro e w10 ⟨rfl, hg, hf⟩
 obtain ⟨ks2, hks2⟩ : ∃ z, z = ks ++ rowService4.map (plainK nService 2 4 false) := ⟨_, rfl⟩
 rw [← hks2] at hg
 have HK2 := h_ (show KvsRd w10 ks2 (((((([] : List KeyS) ++ [⟨nService, nType, 10, false, 2, wrdService0⟩]) ++ keysOf nService 2 7 true rowService1) ++ keysOf nService 2 2 false rowService2) ++ [⟨nService, nRestart, 10, false, 2, wrdService3⟩]) ++ keysOf nService 2 4 false rowService4) from by rw [hks2]; exact KvsRd.append (HKa.out.frb hf HBX.out) (KvsRd.plain _ _ _ _ _ _))
 have HL2 := h_ (show ks2.length = 11 by rw [hks2, List.length_append, HL.out]; rfl)
 have HG := h_ hg
 have HK := HK2
 have HF := h_ (HFa.out.trans hf)
 clear hks2 HK2 HL hg hf HGa HKa HFa HBX hsz
 obtain ⟨ks, rfl⟩ : ∃ z, z = ks2 := ⟨_, rfl⟩
 have HL := HL2
 clear HL2
 go_wp2_with fail
 have hba := (Below.refl w10.heap.size w10).alloc (Nat.le_refl _) (.cells (strVals rowService5).toArray 9)
 have HGa := h_ (HG.out.below hba)
 have HKa := h_ (HK.out.below hba)
 have HFa := h_ (HF.out.alloc (.cells (strVals rowService5).toArray 9))
 have hsz := Nat.le_trans (show B1 ≤ w10.heap.size from by rw [HBe1.out]; exact HF.out.size) hba.size
 obtain ⟨_, _, hbx, -⟩ := HGa.out.ex
 have HBX := h_ hbx
 clear hba hbx HG HK HF
 refine (some_any P1 B1 nService 2 11 true ks w10.heap.size 1 rowService5 (w10.alloc (.cells (strVals rowService5).toArray 9)) HGa.out HPB.out hsz (heap_alloc_new w10 (.cells (strVals rowService5).toArray 9)) (by decide) (by have := HL.out; omega)).mono ?_
 rintro e w11 ⟨rfl, hg, hf⟩
 obtain ⟨ks2, hks2⟩ : ∃ z, z = ks ++ rowService5.map (plainK nService 2 11 true) := ⟨_, rfl⟩
 rw [← hks2] at hg
 have HK2 := h_ (show KvsRd w11 ks2 ((((((([] : List KeyS) ++ [⟨nService, nType, 10, false, 2, wrdService0⟩]) ++ keysOf nService 2 7 true rowService1) ++ keysOf nService 2 2 false rowService2) ++ [⟨nService, nRestart, 10, false, 2, wrdService3⟩]) ++ keysOf nService 2 4 false rowService4) ++ keysOf nService 2 11 true rowService5) from by rw [hks2]; exact KvsRd.append (HKa.out.frb hf HBX.out) (KvsRd.plain _ _ _ _ _ _))
 have HL2 := h_ (show ks2.length = 12 by rw [hks2, List.length_append, HL.out]; rfl)
 have HG := h_ hg
 have HK := HK2
 have HF := h_ (HFa.out.trans hf)
 clear hks2 HK2 HL hg hf HGa HKa HFa HBX hsz
 obtain ⟨ks, rfl⟩ : ∃ z, z = ks2 := ⟨_, rfl⟩
 have HL := HL2
 clear HL2
 go_wp2_with fail
 have hba := (Below.refl w11.heap.size w11).alloc (Nat.le_refl _) (.cells (strVals rowService6).toArray 9)
 have HGa := h_ (HG.out.below hba)
 have HKa := h_ (HK.out.below hba)
 have HFa := h_ (HF.out.alloc (.cells (strVals rowService6).toArray 9))
 have hsz := Nat.le_trans (show B1 ≤ w11.heap.size from by rw [HBe1.out]; exact HF.out.size) hba.size
 obtain ⟨_, _, hbx, -⟩ := HGa.out.ex
 have HBX := h_ hbx
 clear hba hbx HG HK HF
 refine (some_any P1 B1 nService 2 8 true ks w11.heap.size 1 rowService6 (w11.alloc (.cells (strVals rowService6).toArray 9)) HGa.out HPB.out hsz (heap_alloc_new w11 (.cells (strVals rowService6).toArray 9)) (by decide) (by have := HL.out; omega)).mono ?_
 rintro e w12 ⟨rfl, hg, hf⟩
 obtain ⟨ks2, hks2⟩ : ∃ z, z = ks ++ rowService6.map (plainK nService 2 8 true) := ⟨_, rfl⟩
 rw [← hks2] at hg
 have HK2 := h_ (show KvsRd w12 ks2 (((((((([] : List KeyS) ++ [⟨nService, nType, 10, false, 2, wrdService0⟩]) ++ keysOf nService 2 7 true rowService1) ++ keysOf nService 2 2 false rowService2) ++ [⟨nService, nRestart, 10, false, 2, wrdService3⟩]) ++ keysOf nService 2 4 false rowService4) ++ keysOf nService 2 11 true rowService5) ++ keysOf nService 2 8 true rowService6) from by rw [hks2]; exact KvsRd.append (HKa.out.frb hf HBX.out) (KvsRd.plain _ _ _ _ _ _))
 have HL2 := h_ (show ks2.length = 13 by rw [hks2, List.length_append, HL.out]; rfl)
 have HG := h_ hg
 have HK := HK2
 have HF := h_ (HFa.out.trans hf)
 clear hks2 HK2 HL hg hf HGa HKa HFa HBX hsz
 obtain ⟨ks, rfl⟩ : ∃ z, z = ks2 := ⟨_, rfl⟩
 have HL := HL2
 clear HL2
 go_wp2_with fail
 have hba := (Below.refl w12.heap.size w12).alloc (Nat.le_refl _) (.cells (strVals rowService7).toArray 9)
 have HGa := h_ (HG.out.below hba)
 have HKa := h_ (HK.out.below hba)
 have HFa := h_ (HF.out.alloc (.cells (strVals rowService7).toArray 9))
 have hsz := Nat.le_trans (show B1 ≤ w12.heap.size from by rw [HBe1.out]; exact HF.out.size) hba.size
 obtain ⟨_, _, hbx, -⟩ := HGa.out.ex
 have HBX := h_ hbx
 clear hba hbx HG HK HF
 refine (some_any P1 B1 nService 2 6 true ks w12.heap.size 1 rowService7 (w12.alloc (.cells (strVals rowService7).toArray 9)) HGa.out HPB.out hsz (heap_alloc_new w12 (.cells (strVals rowService7).toArray 9)) (by decide) (by have := HL.out; omega)).mono ?_
 rintro e w13 ⟨rfl, hg, hf⟩
 obtain ⟨ks2, hks2⟩ : ∃ z, z = ks ++ rowService7.map (plainK nService 2 6 true) := ⟨_, rfl⟩
 rw [← hks2] at hg
 have HK2 := h_ (show KvsRd w13 ks2 ((((((((([] : List KeyS) ++ [⟨nService, nType, 10, false, 2, wrdService0⟩]) ++ keysOf nService 2 7 true rowService1) ++ keysOf nService 2 2 false rowService2) ++ [⟨nService, nRestart, 10, false, 2, wrdService3⟩]) ++ keysOf nService 2 4 false rowService4) ++ keysOf nService 2 11 true rowService5) ++ keysOf nService 2 8 true rowService6) ++ keysOf nService 2 6 true rowService7) from by rw [hks2]; exact KvsRd.append (HKa.out.frb hf HBX.out) (KvsRd.plain _ _ _ _ _ _))
 have HL2 := h_ (show ks2.length = 14 by rw [hks2, List.length_append, HL.out]; rfl)
 have HG := h_ hg
 have HK := HK2
 have HF := h_ (HFa.out.trans hf)
 clear hks2 HK2 HL hg hf HGa HKa HFa HBX hsz
 obtain ⟨ks, rfl⟩ : ∃ z, z = ks2 := ⟨_, rfl⟩
 have HL := HL2
 clear HL2
 go_wp2_with fail
 obtain ⟨K1, rfl⟩ : ∃ z, z = ks := ⟨_, rfl⟩
 have HG1 := HG
 have HK1 := h_ (show KvsRd w13 K1 keysService from HK.out)
 have HL1 := HL
 have HBn := h_ (HBW.out.trans (HF.out.below Z (by have := HSZ.out; have := HBe1.out; omega) (by have := HSZ.out; omega) (by have := HSZ.out; omega)))
 have HSn := h_ (show Z ≤ P0 ∧ P0 < P1 ∧ P1 < P2 ∧ P2 < P3 ∧ P3 < P4 ∧ P4 < w13.heap.size by have := HSZ.out; have := HF.out.size; omega)
 have HGq := h_ (HG0.out.later HF.out (by rw [HBe1.out]; exact Nat.le_refl _) (by have := HSZ.out; omega) X1.out)
 have HKq := h_ (HK0.out.frb HF.out X1.out)
 clear HG0 HK0
 have HG0 := HGq; have HK0 := HKq
 clear HGq HKq
 have Xq := h_ (HF.out.heap X2.out (by have := HSZ.out; omega) (by decide))
 clear X2
 have X2 := Xq
 clear Xq
 have Xq := h_ (HF.out.heap X3.out (by have := HSZ.out; omega) (by decide))
 clear X3
 have X3 := Xq
 clear Xq
 have Xq := h_ (HF.out.heap X4.out (by have := HSZ.out; omega) (by decide))
 clear X4
 have X4 := Xq
 clear Xq
 clear HG HK HL HF HBW HSZ HPB HBe1 X1
 have HBW := HBn; have HSZ := HSn
 clear HBn HSn
 obtain ⟨B2, hB2⟩ : ∃ B, B = w13.heap.size := ⟨_, rfl⟩
 have HBe2 := h_ hB2
 clear hB2
 have HPB := h_ (show P2 < B2 by have := HSZ.out; have := HBe2.out; omega)
 have HG := h_ (GrpAt.none (B := B2) X2.out)
 have HK := h_ (KvsRd.nil w13)
 have HF := h_ (FrB.refl P2 B2 41 w13)
 obtain ⟨ks, hks⟩ : ∃ z : List KeyV, z = [] := ⟨_, rfl⟩
 rw [← hks] at HG HK
 have HL := h_ (show ks.length = 0 by rw [hks]; rfl)
 clear hks
 have hba := (Below.refl w13.heap.size w13).alloc (Nat.le_refl _) (.cells (strVals rowSocket0).toArray 9)
 have HGa := h_ (HG.out.below hba)
 have HKa := h_ (HK.out.below hba)
 have HFa := h_ (HF.out.alloc (.cells (strVals rowSocket0).toArray 9))
 have hsz := Nat.le_trans (show B2 ≤ w13.heap.size from by rw [HBe2.out]; exact HF.out.size) hba.size
 obtain ⟨_, _, hbx, -⟩ := HGa.out.ex
 have HBX := h_ hbx
 clear hba hbx HG HK HF
 refine (some_any P2 B2 nSocket 4 11 true ks w13.heap.size 1 rowSocket0 (w13.alloc (.cells (strVals rowSocket0).toArray 9)) HGa.out HPB.out hsz (heap_alloc_new w13 (.cells (strVals rowSocket0).toArray 9)) (by decide) (by have := HL.out; omega)).mono ?_
 rintro e w14 ⟨rfl, hg, hf⟩
 obtain ⟨ks2, hks2⟩ : ∃ z, z = ks ++ rowSocket0.map (plainK nSocket 4 11 true) := ⟨_, rfl⟩
 rw [← hks2] at hg
 have HK2 := h_ (show KvsRd w14 ks2 (([] : List KeyS) ++ keysOf nSocket 4 11 true rowSocket0) from by rw [hks2]; exact KvsRd.append (HKa.out.frb hf HBX.out) (KvsRd.plain _ _ _ _ _ _))
 have HL2 := h_ (show ks2.length = 1 by rw [hks2, List.length_append, HL.out]; rfl)
 have HG := h_ hg
 have HK := HK2
 have HF := h_ (HFa.out.trans hf)
 clear hks2 HK2 HL hg hf HGa HKa HFa HBX hsz
 obtain ⟨ks, rfl⟩ : ∃ z, z = ks2 := ⟨_, rfl⟩
 have HL := HL2
 clear HL2
 go_wp2_with fail
 have hba := (Below.refl w14.heap.size w14).alloc (Nat.le_refl _) (.cells (strVals rowSocket1).toArray 9)
 have HGa := h_ (HG.out.below hba)
 have HKa := h_ (HK.out.below hba)
 have HFa := h_ (HF.out.alloc (.cells (strVals rowSocket1).toArray 9))
 have hsz := Nat.le_trans (show B2 ≤ w14.heap.size from by rw [HBe2.out]; exact HF.out.size) hba.size
 obtain ⟨_, _, hbx, -⟩ := HGa.out.ex
 have HBX := h_ hbx
 clear hba hbx HG HK HF
 refine (some_any P2 B2 nSocket 4 3 false ks w14.heap.size 1 rowSocket1 (w14.alloc (.cells (strVals rowSocket1).toArray 9)) HGa.out HPB.out hsz (heap_alloc_new w14 (.cells (strVals rowSocket1).toArray 9)) (by decide) (by have := HL.out; omega)).mono ?_
 rintro e w15 ⟨rfl, hg, hf⟩
 obtain ⟨ks2, hks2⟩ : ∃ z, z = ks ++ rowSocket1.map (plainK nSocket 4 3 false) := ⟨_, rfl⟩
 rw [← hks2] at hg
 have HK2 := h_ (show KvsRd w15 ks2 ((([] : List KeyS) ++ keysOf nSocket 4 11 true rowSocket0) ++ keysOf nSocket 4 3 false rowSocket1) from by rw [hks2]; exact KvsRd.append (HKa.out.frb hf HBX.out) (KvsRd.plain _ _ _ _ _ _))
 have HL2 := h_ (show ks2.length = 2 by rw [hks2, List.length_append, HL.out]; rfl)
 have HG := h_ hg
 have HK := HK2
 have HF := h_ (HFa.out.trans hf)
 clear hks2 HK2 HL hg hf HGa HKa HFa HBX hsz
 obtain ⟨ks, rfl⟩ : ∃ z, z = ks2 := ⟨_, rfl⟩
 have HL := HL2
 clear HL2
 go_wp2_with fail
 have hba := (Below.refl w15.heap.size w15).alloc (Nat.le_refl _) (.cells (strVals rowSocket2).toArray 9)
 have HGa := h_ (HG.out.below hba)
 have HKa := h_ (HK.out.below hba)
 have HFa := h_ (HF.out.alloc (.cells (strVals rowSocket2).toArray 9))
 have hsz := Nat.le_trans (show B2 ≤ w15.heap.size from by rw [HBe2.out]; exact HF.out.size) hba.size
 obtain ⟨_, _, hbx, -⟩ := HGa.out.ex
 have HBX := h_ hbx
 clear hba hbx HG HK HF
 refine (some_any P2 B2 nSocket 4 1 false ks w15.heap.size 1 rowSocket2 (w15.alloc (.cells (strVals rowSocket2).toArray 9)) HGa.out HPB.out hsz (heap_alloc_new w15 (.cells (strVals rowSocket2).toArray 9)) (by decide) (by have := HL.out; omega)).mono ?_
 rintro e w16 ⟨rfl, hg, hf⟩
 obtain ⟨ks2, hks2⟩ : ∃ z, z = ks ++ rowSocket2.map (plainK nSocket 4 1 false) := ⟨_, rfl⟩
 rw [← hks2] at hg
 have HK2 := h_ (show KvsRd w16 ks2 (((([] : List KeyS) ++ keysOf nSocket 4 11 true rowSocket0) ++ keysOf nSocket 4 3 false rowSocket1) ++ keysOf nSocket 4 1 false rowSocket2) from by rw [hks2]; exact KvsRd.append (HKa.out.frb hf HBX.out) (KvsRd.plain _ _ _ _ _ _))
 have HL2 := h_ (show ks2.length = 3 by rw [hks2, List.length_append, HL.out]; rfl)
 have HG := h_ hg
 have HK := HK2
 have HF := h_ (HFa.out.trans hf)
 clear hks2 HK2 HL hg hf HGa HKa HFa HBX hsz
 obtain ⟨ks, rfl⟩ : ∃ z, z = ks2 := ⟨_, rfl⟩
 have HL := HL2
 clear HL2
 go_wp2_with fail
 have hba := (Below.refl w16.heap.size w16).alloc (Nat.le_refl _) (.cells (strVals rowSocket3).toArray 9)
 have HGa := h_ (HG.out.below hba)
 have HKa := h_ (HK.out.below hba)
 have HFa := h_ (HF.out.alloc (.cells (strVals rowSocket3).toArray 9))
 have hsz := Nat.le_trans (show B2 ≤ w16.heap.size from by rw [HBe2.out]; exact HF.out.size) hba.size
 obtain ⟨_, _, hbx, -⟩ := HGa.out.ex
 have HBX := h_ hbx
 clear hba hbx HG HK HF
 refine (some_any P2 B2 nSocket 4 5 false ks w16.heap.size 1 rowSocket3 (w16.alloc (.cells (strVals rowSocket3).toArray 9)) HGa.out HPB.out hsz (heap_alloc_new w16 (.cells (strVals rowSocket3).toArray 9)) (by decide) (by have := HL.out; omega)).mono ?_
 rintro e w17 ⟨rfl, hg, hf⟩
 obtain ⟨ks2, hks2⟩ : ∃ z, z = ks ++ rowSocket3.map (plainK nSocket 4 5 false) := ⟨_, rfl⟩
 rw [← hks2] at hg
 have HK2 := h_ (show KvsRd w17 ks2 ((((([] : List KeyS) ++ keysOf nSocket 4 11 true rowSocket0) ++ keysOf nSocket 4 3 false rowSocket1) ++ keysOf nSocket 4 1 false rowSocket2) ++ keysOf nSocket 4 5 false rowSocket3) from by rw [hks2]; exact KvsRd.append (HKa.out.frb hf HBX.out) (KvsRd.plain _ _ _ _ _ _))
 have HL2 := h_ (show ks2.length = 4 by rw [hks2, List.length_append, HL.out]; rfl)
 have HG := h_ hg
 have HK := HK2
 have HF := h_ (HFa.out.trans hf)
 clear hks2 HK2 HL hg hf HGa HKa HFa HBX hsz
 obtain ⟨ks, rfl⟩ : ∃ z, z = ks2 := ⟨_, rfl⟩
 have HL := HL2
 clear HL2
 go_wp2_with fail
 obtain ⟨K2, rfl⟩ : ∃ z, z = ks := ⟨_, rfl⟩
 have HG2 := HG
 have HK2 := h_ (show KvsRd w17 K2 keysSocket from HK.out)
 have HL2 := HL
 have HBn := h_ (HBW.out.trans (HF.out.below Z (by have := HSZ.out; have := HBe2.out; omega) (by have := HSZ.out; omega) (by have := HSZ.out; omega)))
 have HSn := h_ (show Z ≤ P0 ∧ P0 < P1 ∧ P1 < P2 ∧ P2 < P3 ∧ P3 < P4 ∧ P4 < w17.heap.size by have := HSZ.out; have := HF.out.size; omega)
 have HGq := h_ (HG0.out.later HF.out (by rw [HBe2.out]; exact Nat.le_refl _) (by have := HSZ.out; omega) X2.out)
 have HKq := h_ (HK0.out.frb HF.out X2.out)
 clear HG0 HK0
 have HG0 := HGq; have HK0 := HKq
 clear HGq HKq
 have HGq := h_ (HG1.out.later HF.out (by rw [HBe2.out]; exact Nat.le_refl _) (by have := HSZ.out; omega) X2.out)
 have HKq := h_ (HK1.out.frb HF.out X2.out)
 clear HG1 HK1
 have HG1 := HGq; have HK1 := HKq
 clear HGq HKq
 have Xq := h_ (HF.out.heap X3.out (by have := HSZ.out; omega) (by decide))
 clear X3
 have X3 := Xq
 clear Xq
 have Xq := h_ (HF.out.heap X4.out (by have := HSZ.out; omega) (by decide))
 clear X4
 have X4 := Xq
 clear Xq
 clear HG HK HL HF HBW HSZ HPB HBe2 X2
 have HBW := HBn; have HSZ := HSn
 clear HBn HSn
 obtain ⟨B3, hB3⟩ : ∃ B, B = w17.heap.size := ⟨_, rfl⟩
 have HBe3 := h_ hB3
 clear hB3
 have HPB := h_ (show P3 < B3 by have := HSZ.out; have := HBe3.out; omega)
 have HG := h_ (GrpAt.none (B := B3) X3.out)
 have HK := h_ (KvsRd.nil w17)
 have HF := h_ (FrB.refl P3 B3 41 w17)
 obtain ⟨ks, hks⟩ : ∃ z : List KeyV, z = [] := ⟨_, rfl⟩
 rw [← hks] at HG HK
 have HL := h_ (show ks.length = 0 by rw [hks]; rfl)
 clear hks
 have hba := (Below.refl w17.heap.size w17).alloc (Nat.le_refl _) (.cells (strVals rowTimer0).toArray 9)
 have HGa := h_ (HG.out.below hba)
 have HKa := h_ (HK.out.below hba)
 have HFa := h_ (HF.out.alloc (.cells (strVals rowTimer0).toArray 9))
 have hsz := Nat.le_trans (show B3 ≤ w17.heap.size from by rw [HBe3.out]; exact HF.out.size) hba.size
 obtain ⟨_, _, hbx, -⟩ := HGa.out.ex
 have HBX := h_ hbx
 clear hba hbx HG HK HF
 refine (some_any P3 B3 nTimer 8 4 true ks w17.heap.size 3 rowTimer0 (w17.alloc (.cells (strVals rowTimer0).toArray 9)) HGa.out HPB.out hsz (heap_alloc_new w17 (.cells (strVals rowTimer0).toArray 9)) (by decide) (by have := HL.out; omega)).mono ?_
 rintro e w18 ⟨rfl, hg, hf⟩
 obtain ⟨ks2, hks2⟩ : ∃ z, z = ks ++ rowTimer0.map (plainK nTimer 8 4 true) := ⟨_, rfl⟩
 rw [← hks2] at hg
 have HK2 := h_ (show KvsRd w18 ks2 (([] : List KeyS) ++ keysOf nTimer 8 4 true rowTimer0) from by rw [hks2]; exact KvsRd.append (HKa.out.frb hf HBX.out) (KvsRd.plain _ _ _ _ _ _))
 have HL2 := h_ (show ks2.length = 3 by rw [hks2, List.length_append, HL.out]; rfl)
 have HG := h_ hg
 have HK := HK2
 have HF := h_ (HFa.out.trans hf)
 clear hks2 HK2 HL hg hf HGa HKa HFa HBX hsz
 obtain ⟨ks, rfl⟩ : ∃ z, z = ks2 := ⟨_, rfl⟩
 have HL := HL2
 clear HL2
 go_wp2_with fail
 have hba := (Below.refl w18.heap.size w18).alloc (Nat.le_refl _) (.cells (strVals rowTimer1).toArray 9)
 have HGa := h_ (HG.out.below hba)
 have HKa := h_ (HK.out.below hba)
 have HFa := h_ (HF.out.alloc (.cells (strVals rowTimer1).toArray 9))
 have hsz := Nat.le_trans (show B3 ≤ w18.heap.size from by rw [HBe3.out]; exact HF.out.size) hba.size
 obtain ⟨_, _, hbx, -⟩ := HGa.out.ex
 have HBX := h_ hbx
 clear hba hbx HG HK HF
 refine (some_any P3 B3 nTimer 8 9 true ks w18.heap.size 1 rowTimer1 (w18.alloc (.cells (strVals rowTimer1).toArray 9)) HGa.out HPB.out hsz (heap_alloc_new w18 (.cells (strVals rowTimer1).toArray 9)) (by decide) (by have := HL.out; omega)).mono ?_
 rintro e w19 ⟨rfl, hg, hf⟩
 obtain ⟨ks2, hks2⟩ : ∃ z, z = ks ++ rowTimer1.map (plainK nTimer 8 9 true) := ⟨_, rfl⟩
 rw [← hks2] at hg
 have HK2 := h_ (show KvsRd w19 ks2 ((([] : List KeyS) ++ keysOf nTimer 8 4 true rowTimer0) ++ keysOf nTimer 8 9 true rowTimer1) from by rw [hks2]; exact KvsRd.append (HKa.out.frb hf HBX.out) (KvsRd.plain _ _ _ _ _ _))
 have HL2 := h_ (show ks2.length = 4 by rw [hks2, List.length_append, HL.out]; rfl)
 have HG := h_ hg
 have HK := HK2
 have HF := h_ (HFa.out.trans hf)
 clear hks2 HK2 HL hg hf HGa HKa HFa HBX hsz
 obtain ⟨ks, rfl⟩ : ∃ z, z = ks2 := ⟨_, rfl⟩
 have HL := HL2
 clear HL2
 go_wp2_with fail
 have hba := (Below.refl w19.heap.size w19).alloc (Nat.le_refl _) (.cells (strVals rowTimer2).toArray 9)
 have HGa := h_ (HG.out.below hba)
 have HKa := h_ (HK.out.below hba)
 have HFa := h_ (HF.out.alloc (.cells (strVals rowTimer2).toArray 9))
 have hsz := Nat.le_trans (show B3 ≤ w19.heap.size from by rw [HBe3.out]; exact HF.out.size) hba.size
 obtain ⟨_, _, hbx, -⟩ := HGa.out.ex
 have HBX := h_ hbx
 clear hba hbx HG HK HF
 refine (some_any P3 B3 nTimer 8 2 false ks w19.heap.size 1 rowTimer2 (w19.alloc (.cells (strVals rowTimer2).toArray 9)) HGa.out HPB.out hsz (heap_alloc_new w19 (.cells (strVals rowTimer2).toArray 9)) (by decide) (by have := HL.out; omega)).mono ?_
 rintro e w20 ⟨rfl, hg, hf⟩
 obtain ⟨ks2, hks2⟩ : ∃ z, z = ks ++ rowTimer2.map (plainK nTimer 8 2 false) := ⟨_, rfl⟩
 rw [← hks2] at hg
 have HK2 := h_ (show KvsRd w20 ks2 (((([] : List KeyS) ++ keysOf nTimer 8 4 true rowTimer0) ++ keysOf nTimer 8 9 true rowTimer1) ++ keysOf nTimer 8 2 false rowTimer2) from by rw [hks2]; exact KvsRd.append (HKa.out.frb hf HBX.out) (KvsRd.plain _ _ _ _ _ _))
 have HL2 := h_ (show ks2.length = 5 by rw [hks2, List.length_append, HL.out]; rfl)
 have HG := h_ hg
 have HK := HK2
 have HF := h_ (HFa.out.trans hf)
 clear hks2 HK2 HL hg hf HGa HKa HFa HBX hsz
 obtain ⟨ks, rfl⟩ : ∃ z, z = ks2 := ⟨_, rfl⟩
 have HL := HL2
 clear HL2
 go_wp2_with fail
 have hba := (Below.refl w20.heap.size w20).alloc (Nat.le_refl _) (.cells (strVals rowTimer3).toArray 9)
 have HGa := h_ (HG.out.below hba)
 have HKa := h_ (HK.out.below hba)
 have HFa := h_ (HF.out.alloc (.cells (strVals rowTimer3).toArray 9))
 have hsz := Nat.le_trans (show B3 ≤ w20.heap.size from by rw [HBe3.out]; exact HF.out.size) hba.size
 obtain ⟨_, _, hbx, -⟩ := HGa.out.ex
 have HBX := h_ hbx
 clear hba hbx HG HK HF
 refine (some_any P3 B3 nTimer 8 5 false ks w20.heap.size 1 rowTimer3 (w20.alloc (.cells (strVals rowTimer3).toArray 9)) HGa.out HPB.out hsz (heap_alloc_new w20 (.cells (strVals rowTimer3).toArray 9)) (by decide) (by have := HL.out; omega)).mono ?_
 rintro e w21 ⟨rfl, hg, hf⟩
 obtain ⟨ks2, hks2⟩ : ∃ z, z = ks ++ rowTimer3.map (plainK nTimer 8 5 false) := ⟨_, rfl⟩
 rw [← hks2] at hg
 have HK2 := h_ (show KvsRd w21 ks2 ((((([] : List KeyS) ++ keysOf nTimer 8 4 true rowTimer0) ++ keysOf nTimer 8 9 true rowTimer1) ++ keysOf nTimer 8 2 false rowTimer2) ++ keysOf nTimer 8 5 false rowTimer3) from by rw [hks2]; exact KvsRd.append (HKa.out.frb hf HBX.out) (KvsRd.plain _ _ _ _ _ _))
 have HL2 := h_ (show ks2.length = 6 by rw [hks2, List.length_append, HL.out]; rfl)
 have HG := h_ hg
 have HK := HK2
 have HF := h_ (HFa.out.trans hf)
 clear hks2 HK2 HL hg hf HGa HKa HFa HBX hsz
 obtain ⟨ks, rfl⟩ : ∃ z, z = ks2 := ⟨_, rfl⟩
 have HL := HL2
 clear HL2
 go_wp2_with fail
 obtain ⟨K3, rfl⟩ : ∃ z, z = ks := ⟨_, rfl⟩
 have HG3 := HG
 have HK3 := h_ (show KvsRd w21 K3 keysTimer from HK.out)
 have HL3 := HL
 have HBn := h_ (HBW.out.trans (HF.out.below Z (by have := HSZ.out; have := HBe3.out; omega) (by have := HSZ.out; omega) (by have := HSZ.out; omega)))
 have HSn := h_ (show Z ≤ P0 ∧ P0 < P1 ∧ P1 < P2 ∧ P2 < P3 ∧ P3 < P4 ∧ P4 < w21.heap.size by have := HSZ.out; have := HF.out.size; omega)
 have HGq := h_ (HG0.out.later HF.out (by rw [HBe3.out]; exact Nat.le_refl _) (by have := HSZ.out; omega) X3.out)
 have HKq := h_ (HK0.out.frb HF.out X3.out)
 clear HG0 HK0
 have HG0 := HGq; have HK0 := HKq
 clear HGq HKq
 have HGq := h_ (HG1.out.later HF.out (by rw [HBe3.out]; exact Nat.le_refl _) (by have := HSZ.out; omega) X3.out)
 have HKq := h_ (HK1.out.frb HF.out X3.out)
 clear HG1 HK1
 have HG1 := HGq; have HK1 := HKq
 clear HGq HKq
 have HGq := h_ (HG2.out.later HF.out (by rw [HBe3.out]; exact Nat.le_refl _) (by have := HSZ.out; omega) X3.out)
 have HKq := h_ (HK2.out.frb HF.out X3.out)
 clear HG2 HK2
 have HG2 := HGq; have HK2 := HKq
 clear HGq HKq
 have Xq := h_ (HF.out.heap X4.out (by have := HSZ.out; omega) (by decide))
 clear X4
 have X4 := Xq
 clear Xq
 clear HG HK HL HF HBW HSZ HPB HBe3 X3
 have HBW := HBn; have HSZ := HSn
 clear HBn HSn
 obtain ⟨B4, hB4⟩ : ∃ B, B = w21.heap.size := ⟨_, rfl⟩
 have HBe4 := h_ hB4
 clear hB4
 have HPB := h_ (show P4 < B4 by have := HSZ.out; have := HBe4.out; omega)
 have HG := h_ (GrpAt.none (B := B4) X4.out)
 have HK := h_ (KvsRd.nil w21)
 have HF := h_ (FrB.refl P4 B4 41 w21)
 obtain ⟨ks, hks⟩ : ∃ z : List KeyV, z = [] := ⟨_, rfl⟩
 rw [← hks] at HG HK
 have HL := h_ (show ks.length = 0 by rw [hks]; rfl)
 clear hks
 have hba := (Below.refl w21.heap.size w21).alloc (Nat.le_refl _) (.cells (strVals rowInstall0).toArray 9)
 have HGa := h_ (HG.out.below hba)
 have HKa := h_ (HK.out.below hba)
 have HFa := h_ (HF.out.alloc (.cells (strVals rowInstall0).toArray 9))
 have hsz := Nat.le_trans (show B4 ≤ w21.heap.size from by rw [HBe4.out]; exact HF.out.size) hba.size
 obtain ⟨_, _, hbx, -⟩ := HGa.out.ex
 have HBX := h_ hbx
 clear hba hbx HG HK HF
 refine (some_any P4 B4 nInstall 30 6 true ks w21.heap.size 4 rowInstall0 (w21.alloc (.cells (strVals rowInstall0).toArray 9)) HGa.out HPB.out hsz (heap_alloc_new w21 (.cells (strVals rowInstall0).toArray 9)) (by decide) (by have := HL.out; omega)).mono ?_
 rintro e w22 ⟨rfl, hg, hf⟩
 obtain ⟨ks2, hks2⟩ : ∃ z, z = ks ++ rowInstall0.map (plainK nInstall 30 6 true) := ⟨_, rfl⟩
 rw [← hks2] at hg
 have HK2 := h_ (show KvsRd w22 ks2 (([] : List KeyS) ++ keysOf nInstall 30 6 true rowInstall0) from by rw [hks2]; exact KvsRd.append (HKa.out.frb hf HBX.out) (KvsRd.plain _ _ _ _ _ _))
 have HL2 := h_ (show ks2.length = 4 by rw [hks2, List.length_append, HL.out]; rfl)
 have HG := h_ hg
 have HK := HK2
 have HF := h_ (HFa.out.trans hf)
 clear hks2 HK2 HL hg hf HGa HKa HFa HBX hsz
 obtain ⟨ks, rfl⟩ : ∃ z, z = ks2 := ⟨_, rfl⟩
 have HL := HL2
 clear HL2
 go_wp2_with fail
 have hba := (Below.refl w22.heap.size w22).alloc (Nat.le_refl _) (.cells (strVals rowInstall1).toArray 9)
 have HGa := h_ (HG.out.below hba)
 have HKa := h_ (HK.out.below hba)
 have HFa := h_ (HF.out.alloc (.cells (strVals rowInstall1).toArray 9))
 have hsz := Nat.le_trans (show B4 ≤ w22.heap.size from by rw [HBe4.out]; exact HF.out.size) hba.size
 obtain ⟨_, _, hbx, -⟩ := HGa.out.ex
 have HBX := h_ hbx
 clear hba hbx HG HK HF
 refine (some_any P4 B4 nInstall 30 1 false ks w22.heap.size 1 rowInstall1 (w22.alloc (.cells (strVals rowInstall1).toArray 9)) HGa.out HPB.out hsz (heap_alloc_new w22 (.cells (strVals rowInstall1).toArray 9)) (by decide) (by have := HL.out; omega)).mono ?_
 rintro e w23 ⟨rfl, hg, hf⟩
 obtain ⟨ks2, hks2⟩ : ∃ z, z = ks ++ rowInstall1.map (plainK nInstall 30 1 false) := ⟨_, rfl⟩
 rw [← hks2] at hg
 have HK2 := h_ (show KvsRd w23 ks2 ((([] : List KeyS) ++ keysOf nInstall 30 6 true rowInstall0) ++ keysOf nInstall 30 1 false rowInstall1) from by rw [hks2]; exact KvsRd.append (HKa.out.frb hf HBX.out) (KvsRd.plain _ _ _ _ _ _))
 have HL2 := h_ (show ks2.length = 5 by rw [hks2, List.length_append, HL.out]; rfl)
 have HG := h_ hg
 have HK := HK2
 have HF := h_ (HFa.out.trans hf)
 clear hks2 HK2 HL hg hf HGa HKa HFa HBX hsz
 obtain ⟨ks, rfl⟩ : ∃ z, z = ks2 := ⟨_, rfl⟩
 have HL := HL2
 clear HL2
 go_wp2_with fail
 obtain ⟨K4, rfl⟩ : ∃ z, z = ks := ⟨_, rfl⟩
 have HG4 := HG
 have HK4 := h_ (show KvsRd w23 K4 keysInstall from HK.out)
 have HL4 := HL
 have HBn := h_ (HBW.out.trans (HF.out.below Z (by have := HSZ.out; have := HBe4.out; omega) (by have := HSZ.out; omega) (by have := HSZ.out; omega)))
 have HSn := h_ (show Z ≤ P0 ∧ P0 < P1 ∧ P1 < P2 ∧ P2 < P3 ∧ P3 < P4 ∧ P4 < w23.heap.size by have := HSZ.out; have := HF.out.size; omega)
 have HGq := h_ (HG0.out.later HF.out (by rw [HBe4.out]; exact Nat.le_refl _) (by have := HSZ.out; omega) X4.out)
 have HKq := h_ (HK0.out.frb HF.out X4.out)
 clear HG0 HK0
 have HG0 := HGq; have HK0 := HKq
 clear HGq HKq
 have HGq := h_ (HG1.out.later HF.out (by rw [HBe4.out]; exact Nat.le_refl _) (by have := HSZ.out; omega) X4.out)
 have HKq := h_ (HK1.out.frb HF.out X4.out)
 clear HG1 HK1
 have HG1 := HGq; have HK1 := HKq
 clear HGq HKq
 have HGq := h_ (HG2.out.later HF.out (by rw [HBe4.out]; exact Nat.le_refl _) (by have := HSZ.out; omega) X4.out)
 have HKq := h_ (HK2.out.frb HF.out X4.out)
 clear HG2 HK2
 have HG2 := HGq; have HK2 := HKq
 clear HGq HKq
 have HGq := h_ (HG3.out.later HF.out (by rw [HBe4.out]; exact Nat.le_refl _) (by have := HSZ.out; omega) X4.out)
 have HKq := h_ (HK3.out.frb HF.out X4.out)
 clear HG3 HK3
 have HG3 := HGq; have HK3 := HKq
 clear HGq HKq
 clear HG HK HL HF HBW HSZ HPB HBe4 X4
 have HBW := HBn; have HSZ := HSn
 clear HBn HSn
 obtain ⟨ga0, gc0, hb0, hr0⟩ := HG0.out.rowOf
 have HBX0 := h_ hb0; have HRW0 := h_ hr0
 clear hb0 hr0 HG0
 obtain ⟨ga1, gc1, hb1, hr1⟩ := HG1.out.rowOf
 have HBX1 := h_ hb1; have HRW1 := h_ hr1
 clear hb1 hr1 HG1
 obtain ⟨ga2, gc2, hb2, hr2⟩ := HG2.out.rowOf
 have HBX2 := h_ hb2; have HRW2 := h_ hr2
 clear hb2 hr2 HG2
 obtain ⟨ga3, gc3, hb3, hr3⟩ := HG3.out.rowOf
 have HBX3 := h_ hb3; have HRW3 := h_ hr3
 clear hb3 hr3 HG3
 obtain ⟨ga4, gc4, hb4, hr4⟩ := HG4.out.rowOf
 have HBX4 := h_ hb4; have HRW4 := h_ hr4
 clear hb4 hr4 HG4
 have HQ := h_ (fun W (h : Below w23.heap.size w23 W) => show W.cell? ⟨P0, 2, none⟩ = some (.slice ga0 K0.length gc0) ∧ W.cell? ⟨P1, 2, none⟩ = some (.slice ga1 K1.length gc1) ∧ W.cell? ⟨P2, 2, none⟩ = some (.slice ga2 K2.length gc2) ∧ W.cell? ⟨P3, 2, none⟩ = some (.slice ga3 K3.length gc3) ∧ W.cell? ⟨P4, 2, none⟩ = some (.slice ga4 K4.length gc4) from
  ⟨(cells3 (heap_below HBX0.out h)).2.2, (cells3 (heap_below HBX1.out h)).2.2, (cells3 (heap_below HBX2.out h)).2.2, (cells3 (heap_below HBX3.out h)).2.2, (cells3 (heap_below HBX4.out h)).2.2⟩)
 refine wp_region_drawT (S := fun V => Below w23.heap.size w23 V) 20 (by kernel_rfl) (by kernel_rfl) (below_dn ⟨1, rfl⟩) (fun hHeld => ?_)
 try simp only [Act.put, sA_, sB_, sC_]
 refine dT_ (i := 0) (v := .pointer (some ⟨P0, 0, none⟩)) (gT_ rfl) (fun W hW => by obtain ⟨q0, q1, q2, q3, q4⟩ := HQ.out W hW; clear hW; go_simp) ?_
 try simp only [Act.put, sA_, sB_, sC_]
 refine dT_ (i := 1) (v := .pointer (some ⟨P0, 0, none⟩)) (gT_ rfl) (fun W hW => by obtain ⟨q0, q1, q2, q3, q4⟩ := HQ.out W hW; clear hW; go_simp) ?_
 try simp only [Act.put, sA_, sB_, sC_]
 refine dT_ (i := 2) (v := .pointer (some ⟨P0, 2, none⟩)) (gT_ rfl) (fun W hW => by obtain ⟨q0, q1, q2, q3, q4⟩ := HQ.out W hW; clear hW; go_simp) ?_
 try simp only [Act.put, sA_, sB_, sC_]
 refine dT_ (i := 3) (v := .slice ga0 K0.length gc0) (gT_ rfl) (fun W hW => by obtain ⟨q0, q1, q2, q3, q4⟩ := HQ.out W hW; clear hW; go_simp) ?_
 try simp only [Act.put, sA_, sB_, sC_]
 refine dT_ (i := 4) (v := .pointer (some ⟨P1, 0, none⟩)) (gT_ rfl) (fun W hW => by obtain ⟨q0, q1, q2, q3, q4⟩ := HQ.out W hW; clear hW; go_simp) ?_
 try simp only [Act.put, sA_, sB_, sC_]
 refine dT_ (i := 5) (v := .pointer (some ⟨P1, 0, none⟩)) (gT_ rfl) (fun W hW => by obtain ⟨q0, q1, q2, q3, q4⟩ := HQ.out W hW; clear hW; go_simp) ?_
 try simp only [Act.put, sA_, sB_, sC_]
 refine dT_ (i := 6) (v := .pointer (some ⟨P1, 2, none⟩)) (gT_ rfl) (fun W hW => by obtain ⟨q0, q1, q2, q3, q4⟩ := HQ.out W hW; clear hW; go_simp) ?_
 try simp only [Act.put, sA_, sB_, sC_]
 refine dT_ (i := 7) (v := .slice ga1 K1.length gc1) (gT_ rfl) (fun W hW => by obtain ⟨q0, q1, q2, q3, q4⟩ := HQ.out W hW; clear hW; go_simp) ?_
 try simp only [Act.put, sA_, sB_, sC_]
 refine dT_ (i := 8) (v := .pointer (some ⟨P2, 0, none⟩)) (gT_ rfl) (fun W hW => by obtain ⟨q0, q1, q2, q3, q4⟩ := HQ.out W hW; clear hW; go_simp) ?_
 try simp only [Act.put, sA_, sB_, sC_]
 refine dT_ (i := 9) (v := .pointer (some ⟨P2, 0, none⟩)) (gT_ rfl) (fun W hW => by obtain ⟨q0, q1, q2, q3, q4⟩ := HQ.out W hW; clear hW; go_simp) ?_
 try simp only [Act.put, sA_, sB_, sC_]
 refine dT_ (i := 10) (v := .pointer (some ⟨P2, 2, none⟩)) (gT_ rfl) (fun W hW => by obtain ⟨q0, q1, q2, q3, q4⟩ := HQ.out W hW; clear hW; go_simp) ?_
 try simp only [Act.put, sA_, sB_, sC_]
 refine dT_ (i := 11) (v := .slice ga2 K2.length gc2) (gT_ rfl) (fun W hW => by obtain ⟨q0, q1, q2, q3, q4⟩ := HQ.out W hW; clear hW; go_simp) ?_
 try simp only [Act.put, sA_, sB_, sC_]
 refine dT_ (i := 12) (v := .pointer (some ⟨P3, 0, none⟩)) (gT_ rfl) (fun W hW => by obtain ⟨q0, q1, q2, q3, q4⟩ := HQ.out W hW; clear hW; go_simp) ?_
 try simp only [Act.put, sA_, sB_, sC_]
 refine dT_ (i := 13) (v := .pointer (some ⟨P3, 0, none⟩)) (gT_ rfl) (fun W hW => by obtain ⟨q0, q1, q2, q3, q4⟩ := HQ.out W hW; clear hW; go_simp) ?_
 try simp only [Act.put, sA_, sB_, sC_]
 refine dT_ (i := 14) (v := .pointer (some ⟨P3, 2, none⟩)) (gT_ rfl) (fun W hW => by obtain ⟨q0, q1, q2, q3, q4⟩ := HQ.out W hW; clear hW; go_simp) ?_
 try simp only [Act.put, sA_, sB_, sC_]
 refine dT_ (i := 15) (v := .slice ga3 K3.length gc3) (gT_ rfl) (fun W hW => by obtain ⟨q0, q1, q2, q3, q4⟩ := HQ.out W hW; clear hW; go_simp) ?_
 try simp only [Act.put, sA_, sB_, sC_]
 refine dT_ (i := 16) (v := .pointer (some ⟨P4, 0, none⟩)) (gT_ rfl) (fun W hW => by obtain ⟨q0, q1, q2, q3, q4⟩ := HQ.out W hW; clear hW; go_simp) ?_
 try simp only [Act.put, sA_, sB_, sC_]
 refine dT_ (i := 17) (v := .pointer (some ⟨P4, 0, none⟩)) (gT_ rfl) (fun W hW => by obtain ⟨q0, q1, q2, q3, q4⟩ := HQ.out W hW; clear hW; go_simp) ?_
 try simp only [Act.put, sA_, sB_, sC_]
 refine dT_ (i := 18) (v := .pointer (some ⟨P4, 2, none⟩)) (gT_ rfl) (fun W hW => by obtain ⟨q0, q1, q2, q3, q4⟩ := HQ.out W hW; clear hW; go_simp) ?_
 try simp only [Act.put, sA_, sB_, sC_]
 refine dT_ (i := 19) (v := .slice ga4 K4.length gc4) (gT_ rfl) (fun W hW => by obtain ⟨q0, q1, q2, q3, q4⟩ := HQ.out W hW; clear hW; go_simp) ?_
 try simp only [Act.put, sA_, sB_, sC_]
 refine drawT_done (by kernel_rfl) ?_
 clear hHeld
 have HD := h_ (show Below w23.heap.size w23 (w23.drew.alloc (.cells #[.slice ga0 K0.length gc0, .slice ga1 K1.length gc1, .slice ga2 K2.length gc2, .slice ga3 K3.length gc3, .slice ga4 K4.length gc4] 38)) from (show Below w23.heap.size w23 w23.drew from below_dn ⟨1, rfl⟩).alloc (Nat.le_refl _) _)
 have hnew : (w23.drew.alloc (.cells #[.slice ga0 K0.length gc0, .slice ga1 K1.length gc1, .slice ga2 K2.length gc2, .slice ga3 K3.length gc3, .slice ga4 K4.length gc4] 38)).heap[w23.heap.size]? = some (.cells #[.slice ga0 K0.length gc0, .slice ga1 K1.length gc1, .slice ga2 K2.length gc2, .slice ga3 K3.length gc3, .slice ga4 K4.length gc4] 38 (0, 0)) := heap_alloc_new w23.drew (.cells #[.slice ga0 K0.length gc0, .slice ga1 K1.length gc1, .slice ga2 K2.length gc2, .slice ga3 K3.length gc3, .slice ga4 K4.length gc4] 38)
 have HRS := h_ (show RowsK (w23.drew.alloc (.cells #[.slice ga0 K0.length gc0, .slice ga1 K1.length gc1, .slice ga2 K2.length gc2, .slice ga3 K3.length gc3, .slice ga4 K4.length gc4] 38)) w23.heap.size [K0, K1, K2, K3, K4] from ⟨lt_heap hnew, fun k hk => by
  have hc := (rd hnew).1 k
  match k, hk with
  | 0, _ => exact ⟨ga0, gc0, hc, HRW0.out.below HD.out⟩
  | 1, _ => exact ⟨ga1, gc1, hc, HRW1.out.below HD.out⟩
  | 2, _ => exact ⟨ga2, gc2, hc, HRW2.out.below HD.out⟩
  | 3, _ => exact ⟨ga3, gc3, hc, HRW3.out.below HD.out⟩
  | 4, _ => exact ⟨ga4, gc4, hc, HRW4.out.below HD.out⟩⟩)
 clear hnew
 have hfl : [K0, K1, K2, K3, K4].flatten = K0 ++ (K1 ++ (K2 ++ (K3 ++ K4))) := by simp
 have hfn : [K0, K1, K2, K3, K4].flatten.length = 42 := by rw [hfl]; simp only [List.length_append, HL0.out, HL1.out, HL2.out, HL3.out, HL4.out]
 have HFL := h_ hfl; have HFN := h_ hfn
 clear hfl hfn
 go_wp2_with fail
 refine (concatK_any w23.heap.size 5 [K0, K1, K2, K3, K4] (w23.drew.alloc (.cells #[.slice ga0 K0.length gc0, .slice ga1 K1.length gc1, .slice ga2 K2.length gc2, .slice ga3 K3.length gc3, .slice ga4 K4.length gc4] 38)) HRS.out (by simp) (by rw [HFN.out]; decide)).mono ?_
 rintro e wz ⟨v, rfl, ho, hbz⟩
 obtain ⟨oa, cap, rfl⟩ := ownsRow_form ho
 have HO := h_ ho
 have HBZ := h_ (HD.out.trans (hbz.mono HD.out.size))
 clear ho hbz HRS
 rw [HFN.out]
 go_wp2_with fail
 go_ret
 have hk := KvsRd.append HK0.out (KvsRd.append HK1.out (KvsRd.append HK2.out (KvsRd.append HK3.out HK4.out)))
 refine ⟨oa, cap, [K0, K1, K2, K3, K4].flatten, rfl, RowRd.of_own (enc := encK) (k := 6) (fun _ => rfl) HO.out, ?_, ?_⟩
 ·rw [HFL.out]; exact hk.below HBZ.out
 ·have h1 := HBW.out
  rw [HZ.out] at h1
  exact h1.trans (HBZ.out.mono h1.size)
end Go.Proofs.YtdjkedcpehhmnaaGreatDoor
