import Derived.Test.YtdjkedcpehhmnaaGreatDoorUS36
import Derived.Test.YtdjkedcpehhmnaaGreatDoorUS40
namespace Go.Proofs.YtdjkedcpehhmnaaGreatDoor
open Go Go.RowKit
set_option linter.unusedVariables false
set_option linter.unusedSimpArgs false
set_option maxRecDepth 100000
structure UnitRd (w : World) (cs : Array Value) (u : UV) : Prop where
 size : cs.size = 35
 fld : ∀ j v, cs[j]? = some v → UcAt w (fun _ => True) (u j) v
theorem UnitRd.below {w w' : World} {cs : Array Value} {u : UV} (h : UnitRd w cs u) (hb : Below w.heap.size w w') : UnitRd w' cs u :=
 ⟨h.size, fun j v hv => (h.fld j v hv).fr (M := fun _ => False) (Fr.of_below hb _) (fun _ _ e => e)⟩
theorem UnitOwn.rd {w : World} {U : Nat} {cs : Array Value} {F : Nat → Nat → Prop} {u : UV} (h : UnitOwn w U cs F u) : UnitRd w cs u := ⟨h.size, fun j v hv => (h.fld j v hv).mono (fun _ _ => trivial)⟩
theorem UnitRd.zero (w : World) : UnitRd w unitZero zeroU := by
 rw [← vals_zero]
 refine ⟨by simp [valsU], fun j v hv => ?_⟩
 have hj : j < 35 := by have := (Array.getElem?_eq_some_iff.1 hv).1; simpa [valsU] using this
 have : v = valC (zeroU j) := by
  simp only [valsU, List.getElem?_toArray, List.getElem?_map, List.getElem?_range hj, Option.map_some] at hv
  injection hv with hv; exact hv.symm
 rw [this]
 exact (valC_at w _ (zeroU_len j)).mono (fun _ h => h.elim)
theorem UcAt.one {w : World} {F : Nat → Prop} : ∀ {c : UC} {v : Value}, UcAt w F c v → v.oneCell' = true
 | .s _, _, h => by rw [show _ = _ from h]; rfl
 | .n _, _, h => by rw [show _ = _ from h]; rfl
 | .b _, _, h => by rw [show _ = _ from h]; rfl
 | .ss _, _, h => by obtain ⟨_, _, rfl⟩ := ownsRow_form h.1; rfl
 | .ns _, _, h => by obtain ⟨_, _, rfl⟩ := ownsRow_form h.1; rfl
 | .rs _, _, h => by obtain ⟨_, _, rfl⟩ := ownsRow_form h.1; rfl
 | .ps _, _, h => by obtain ⟨_, _, rfl⟩ := ownsRow_form h.1; rfl
 | .cs _, _, h => by obtain ⟨_, _, h, _⟩ := h; obtain ⟨_, _, rfl⟩ := ownsRow_form h; rfl
theorem UnitRd.one {w : World} {cs : Array Value} {u : UV} (h : UnitRd w cs u) : (cs.all fun x => x.oneCell') = true := by
 rw [Array.all_eq_true]
 intro i hi
 exact (h.fld i _ (Array.getElem?_eq_getElem hi)).one
theorem res_cell2 {P : Program} {w : World} {fn : Func} {tmps : Array Value} (a b : Nat) (t t2 : TypeId) (ba bb : Nat) (v v2 : Value) (hf : fn.results = #[.cell a t, .cell b t2]) (ha : tmps.getD a undef = .pointer (some ⟨ba, 0, none⟩)) (hb : tmps.getD b undef = .pointer (some ⟨bb, 0, none⟩))
  (hl : (loadVar t ⟨ba, 0, none⟩).run P w = .ok v w) (hl2 : (loadVar t2 ⟨bb, 0, none⟩).run P w = .ok v2 w) : Sem.run P (results fn tmps) w = .ok (.tuple #[v, v2]) w := by
 unfold results
 have hA : (asAddr (.pointer (some ⟨ba, 0, none⟩))).run P w = .ok ⟨ba, 0, none⟩ w := rfl
 have hB : (asAddr (.pointer (some ⟨bb, 0, none⟩))).run P w = .ok ⟨bb, 0, none⟩ w := rfl
 rw [hf]
 simp only [List.mapM_toArray, List.mapM_cons, List.mapM_nil, ha, hb, Sem.run_bind, hA, hB, hl, hl2, Sem.run_pure, Result.andThen_ok, map_eq_pure_bind]
 rfl
theorem post_cell2 {P : Program} {w : World} {fn : Func} {R : Ending → World → Prop} {x : Act} (a b : Nat) (t t2 : TypeId) (ba bb : Nat) (v v2 : Value) (hf : fn.results = #[.cell a t, .cell b t2]) (hd : x.defers = []) (ha : x.tmps.getD a undef = .pointer (some ⟨ba, 0, none⟩)) (hb : x.tmps.getD b undef = .pointer (some ⟨bb, 0, none⟩))
  (hl : (loadVar t ⟨ba, 0, none⟩).run P w = .ok v w) (hl2 : (loadVar t2 ⟨bb, 0, none⟩).run P w = .ok v2 w) (h : R (.returned (.tuple #[v, v2])) w) : bodyPost P fn R .ret x w :=
 ⟨hd, .tuple #[v, v2], res_cell2 a b t t2 ba bb v v2 hf ha hb hl hl2, h⟩
theorem exec_build0 {a : Act} {w : World} {o : Oper} (ho : o.op = Op.build 30 #[]) : (execOp a.eval o).run Tryz.prog w = .ok (.value (.agg unitZero)) w := by
 unfold execOp
 simp only [ho]
 have := build_zero w
 simp only [List.map_toArray, List.map_nil, Sem.run_bind, this]
 rfl
theorem lineU_step {nm : Str} {kind : Int} {u r : UV} {x : Ln} (h : lineU nm kind u x = .ok r) : ∃ k ∈ allKeys, ∃ v, r = u.upd (slotK k.name) (fieldS nm k v (u (slotK k.name))) ∧ longU r = false := by
 unfold lineU at h
 split at h
 ·cases h
 ·rename_i v hv
  split at h
  ·cases h
  ·split at h
   ·cases h
   ·rename_i k hk
    split at h
    ·cases h
    ·split at h
     ·cases h
     ·rename_i hl
      injection h with h
      subst h
      exact ⟨k, find_mem _ _ k hk, v, rfl, by simpa using hl⟩
theorem notList0 : (List.range 35).all (fun j => listIx.contains j || j == 4 || decide ((zeroU j).tag < 3)) = true := by decide +kernel
theorem notList (j : Nat) (h : j ∉ listIx) (h4 : ¬ j = 4) : (zeroU j).tag < 3 := by
 by_cases hj : j < 35
 ·have := List.all_eq_true.1 notList0 j (List.mem_range.2 hj)
  simp only [Bool.or_eq_true, beq_iff_eq, decide_eq_true_eq, List.contains_iff_mem] at this
  rcases this with (h1 | h1) | h1
  ·exact absurd h1 h
  ·exact absurd h1 h4
  ·exact h1
 ·unfold zeroU
  rw [if_neg (by omega), if_neg (by omega), if_neg (by omega), if_neg (by omega), if_neg (by omega), if_neg (by omega), if_neg (by omega)]
  decide
theorem lens_ok {u : UV} (hT : TypedU u) (hl : longU u = false) (j : Nat) : (u j).len ≤ 100000 := by
 have h := (longU_iff u).1 hl j
 unfold overF at h
 split at h
 ·have := of_decide_eq_false h; omega
 ·rename_i h4
  by_cases hc : listIx.contains j = true
  ·rw [hc] at h
   simp only [Bool.true_and] at h
   have := of_decide_eq_false h; omega
  ·have h0 : (u j).tag < 3 := by
    rw [hT j]
    exact notList j (fun h => hc (List.contains_iff_mem.2 h)) h4
   generalize u j = c at h0 ⊢
   cases c <;> simp [UC.tag, UC.len] at h0 ⊢
theorem fault_facts {w : World} {b : Nat} {x y : Value} {T : TypeId} (h : w.heap[b]? = some (.cells #[x, y] T (0, 0))) : w.cell? ⟨b, 0, none⟩ = some x ∧ w.cell? ⟨b, 1, none⟩ = some y ∧ w.frozen? ⟨b, 0, none⟩ = false ∧ w.frozen? ⟨b, 1, none⟩ = false ∧ w.shape? b = some (T, 2) :=
 ⟨by rw [(rd h).1]; rfl, by rw [(rd h).1]; rfl, (rd h).2.1 0, (rd h).2.1 1, (rd h).2.2.1⟩
theorem make_end {w9 : World} {U0 FB : Nat} {cs9 : Array Value} (h9 : w9.heap[U0]? = some (.cells cs9 30 (0, 0))) (hF9 : w9.heap[FB]? = some (.cells #[.int .i64 0, .int .i64 0] 33 (0, 0))) (hne : U0 ≠ FB) (c a : Int) (h35 : cs9.size = 35 := by rfl) :
  (loadVar 30 ⟨U0, 0, none⟩).run Tryz.prog ((w9.setCell ⟨FB, 0, none⟩ (.int .i64 c)).setCell ⟨FB, 1, none⟩ (.int .i64 a)) = .ok (.agg cs9) ((w9.setCell ⟨FB, 0, none⟩ (.int .i64 c)).setCell ⟨FB, 1, none⟩ (.int .i64 a)) ∧
  (loadVar 33 ⟨FB, 0, none⟩).run Tryz.prog ((w9.setCell ⟨FB, 0, none⟩ (.int .i64 c)).setCell ⟨FB, 1, none⟩ (.int .i64 a)) = .ok (.agg #[.int .i64 c, .int .i64 a]) ((w9.setCell ⟨FB, 0, none⟩ (.int .i64 c)).setCell ⟨FB, 1, none⟩ (.int .i64 a)) ∧
  Fr (fun k => k = FB) w9 ((w9.setCell ⟨FB, 0, none⟩ (.int .i64 c)).setCell ⟨FB, 1, none⟩ (.int .i64 a)) := by
 have e1 := heap_other (heap_other h9 (a := ⟨FB, 0, none⟩) hne (.int .i64 c)) (a := ⟨FB, 1, none⟩) hne (.int .i64 a)
 have e2 := heap_setCell (heap_setCell hF9 0 (.int .i64 c)) 1 (.int .i64 a)
 refine ⟨loadVar_all 30 _ rfl rfl (by rw [h35]; rfl) e1, loadVar_all 33 _ rfl rfl rfl e2, ?_⟩
 exact Fr.setCell (M := fun k => k = FB) (Fr.setCell (M := fun k => k = FB) (Fr.refl _ _) (p := ⟨FB, 0, none⟩) (fun _ => rfl) _) (p := ⟨FB, 1, none⟩) (fun _ => rfl) _
theorem valsU_at (u : UV) (j : Nat) (hj : j < 35) : (valsU u)[j]? = some (valC (u j)) := by
 simp only [valsU, List.getElem?_toArray, List.getElem?_map, List.getElem?_range hj, Option.map_some]
theorem valsU_rd (w : World) (u : UV) (h : ∀ j, (u j).len = 0) : UnitRd w (valsU u) u := by
 refine ⟨by simp [valsU], fun j v hv => ?_⟩
 have hj : j < 35 := by have := (Array.getElem?_eq_some_iff.1 hv).1; simpa [valsU] using this
 rw [valsU_at u j hj] at hv
 injection hv with hv
 rw [← hv]
 exact (valC_at w _ (h j)).mono (fun _ h => h.elim)
theorem newU_kind (nm : Str) : newU nm 1 = .n (kindS nm : Nat) := by
 unfold newU
 split
 ·rename_i h; rw [h]; rfl
 ·simp only
  split
  ·rfl
  ·split <;> rfl
theorem newU_name (nm : Str) (h : kindS nm ≠ 0) : newU nm 0 = .s nm := by
 unfold newU
 rw [if_neg h]
 split
 ·rfl
 ·split <;> rfl
def MakeOut (w : World) (r : UV × (Int × Int)) (e : Ending) (w' : World) : Prop :=
 Below w.heap.size w w' ∧ ∃ cs, e = .returned (.tuple #[.agg cs, .agg #[.int .i64 r.2.1, .int .i64 r.2.2]]) ∧ UnitRd w' cs r.1
set_option maxHeartbeats 8000000 in
theorem makeU_fit (nm : Str) (l : List Ln) (oa : Option Addr) (cap : Nat) (w : World) (hM : MaxAt w) (hr : RowRd encLn 4 w oa l) (hl : l.length ≤ 4294967296) (hx : ∀ x ∈ l, x.val.length ≤ 200000000 ∧ ∀ v, specS x.val nm = .ok v → v.length ≤ 100000000) (hnm : nm.length ≤ 100000000) :
  Calls Tryz.prog 11 #[.string ⟨nm.toArray⟩, .slice oa l.length cap] w fun e w' => MakeOut w (makeU nm l) e w' := by
 have HM := h_ hM; have HR := h_ hr; have HX := h_ hx
 obtain ⟨kind, hkind⟩ : ∃ kind, kindS nm = kind := ⟨_, rfl⟩
 have hkl : kind ≤ 4 := by rw [← hkind]; exact kindS_le nm
 have HK := h_ hkind
 have hk1 : newU nm 1 = .n (kind : Nat) := by rw [← hkind]; exact newU_kind nm
 have HK1 := h_ hk1
 have HN := h_ (fun W (h : Below w.heap.size w W) => new_any nm W (by omega) (hM.below h))
 have Z0 := h_ one_zero
 have Z1 := h_ (UnitRd.one (valsU_rd w (newU nm) (newU_len nm)))
 obtain ⟨bb, hbb⟩ : ∃ bb, bareS nm = bb := ⟨_, rfl⟩
 have HBB := h_ hbb
 have HBR := h_ (fun W (h : Below w.heap.size w W) => bare_any ⟨nm.toArray⟩ W (by show nm.toArray.size < _; simp; omega) (hM.below h) bb hbb)
 clear hM hr hx hkind hk1 hbb
 go_enter Tryz.func11, Tryz.ntmps11
 go_wp2_with (refine l_alloc rfl _ unitZero rfl (run_alloc_unit _) ?_; intro w1 h1 hb1)
 have hBf : Below w1.heap.size w1 (w1.alloc (.cells #[.int .i64 0, .int .i64 0] 33)) := (Below.refl _ _).alloc (Nat.le_refl _) _
 have hbf := Below.more hb1 hBf
 have HF1 := h_ (heap_alloc_new w1 (.cells #[.int .i64 0, .int .i64 0] 33))
 have HU1 := h_ (heap_below h1 hBf)
 refine (HN.out _ hbf).mono ?_
 rintro e w2 ⟨rfl, hb2⟩
 have HB2 := h_ (Below.more hbf hb2)
 have HU2 := h_ (heap_below HU1.out hb2); have HF2 := h_ (heap_below HF1.out hb2)
 have hl0 : w.heap.size < w1.heap.size := lt_heap h1
 have hl1 : w1.heap.size < w2.heap.size := lt_heap HF2.out
 obtain ⟨FB, hFB⟩ : ∃ FB, FB = w1.heap.size := ⟨_, rfl⟩
 rw [← hFB] at HF2 hl0 hl1 ⊢
 clear hb1 h1 hBf hbf hb2 HU1 HF1 hFB
 have HSV := h_ (show (valsU (newU nm)).size = 35 by simp [valsU])
 have HSI := h_ (show (Tryz.prog.info? 30).map (·.size) = some (valsU (newU nm)).size by rw [HSV.out]; rfl)
 have HSS := h_ (show unitZero.size = (valsU (newU nm)).size by rw [HSV.out]; rfl)
 have HKC := h_ (show (valsU (newU nm))[1]? = some (.int .i64 (kind : Nat)) by rw [valsU_at _ 1 (by decide), HK1.out]; rfl)
 have HZ := h_ (show ∀ w3 w4 : World, Below w2.heap.size w2 w3 → Fr (fun x => x = w2.heap.size) w3 w4 → w4.heap[w.heap.size]? = some (.cells unitZero 30 (0, 0)) ∧ w4.heap[FB]? = some (.cells #[.int .i64 0, .int .i64 0] 33 (0, 0)) ∧ Below w.heap.size w w4 from by
  intro w3 w4 hb3 hf4
  have e1 := heap_below HU2.out hb3
  have e2 := heap_below HF2.out hb3
  refine ⟨hf4.heap e1 (by omega), hf4.heap e2 (by omega), HB2.out.trans ?_⟩
  exact (hb3.mono (by omega)).trans (hf4.below _ (by have := hb3.size; omega) (fun k hk e => by omega)))
 have hneF : FB ≠ w.heap.size := by omega
 have hneF2 : ¬ FB = w.heap.size := by omega
 by_cases hk0 : kind = 0
 ·subst hk0
  have HRES := h_ (show makeU nm l = (zeroU, (5, 0)) by unfold makeU; rw [if_pos (.inl HK.out)])
  go_wp2_with (first
   | (refine l_alloc rfl _ unitZero rfl (run_alloc_unit _) ?_; intro w3 h3 hb3)
   | (refine l_store rfl 30 _ _ w2.heap.size (valsU (newU nm)) unitZero 30 rfl rfl rfl h3 HSS.out HSI.out Z1.out ?_; intro w4 h4 hf4; have hc1 := ((rd h4).1 1).trans HKC.out; have hu := (HZ.out w3 w4 hb3 hf4).1; have hF := (HZ.out w3 w4 hb3 hf4).2.1; have hB4 := (HZ.out w3 w4 hb3 hf4).2.2)
   | (refine l_build rfl _ #[] #[] _ rfl (by simp) (build_zero _) ?_)
   | (refine l_store rfl 30 _ _ w.heap.size unitZero unitZero 30 rfl rfl rfl hu rfl rfl Z0.out ?_; intro w9 h9 hf9; have hF9 := hf9.heap hF hneF2; obtain ⟨g0, g1, g2, g3, g4⟩ := fault_facts hF9))
  have hend := make_end h9 hF9 hneF.symm 5 0
  refine post_cell2 4 5 30 33 w.heap.size FB _ _ rfl rfl rfl rfl hend.1 hend.2.1 ⟨?_, unitZero, by rw [HRES.out], by rw [HRES.out]; exact UnitRd.zero _⟩
  exact (hB4.trans (hf9.below _ hB4.size (fun k hk e => by omega))).trans (hend.2.2.below _ (Nat.le_trans hB4.size hf9.size) (fun k hk e => by omega))
 ·have hk2 : (((kind : Nat) : Int) == 0) = false := by rw [beq_eq_false_iff_ne]; omega
  cases bb with
  | true =>
   have HRES := h_ (show makeU nm l = (zeroU, (5, 0)) by unfold makeU; rw [if_pos (.inr HBB.out)])
   go_wp2_with (first
    | (refine l_alloc rfl _ unitZero rfl (run_alloc_unit _) ?_; intro w3 h3 hb3)
    | (refine l_store rfl 30 _ _ w2.heap.size (valsU (newU nm)) unitZero 30 rfl rfl rfl h3 HSS.out HSI.out Z1.out ?_; intro w4 h4 hf4; have hc1 := ((rd h4).1 1).trans HKC.out; have hu := (HZ.out w3 w4 hb3 hf4).1; have hF := (HZ.out w3 w4 hb3 hf4).2.1; have hB4 := (HZ.out w3 w4 hb3 hf4).2.2))
   refine (HBR.out _ hB4).mono ?_
   rintro e w5 ⟨rfl, hb5⟩
   have hu5 := heap_below hu hb5; have hF5 := heap_below hF hb5
   have hB5 := hB4.trans (hb5.mono hB4.size)
   go_wp2_with (first
    | (refine l_build rfl _ #[] #[] _ rfl (by simp) (build_zero _) ?_)
    | (refine l_store rfl 30 _ _ w.heap.size unitZero unitZero 30 rfl rfl rfl hu5 rfl rfl Z0.out ?_; intro w9 h9 hf9; have hF9 := hf9.heap hF5 hneF2; obtain ⟨g0, g1, g2, g3, g4⟩ := fault_facts hF9))
   have hend := make_end h9 hF9 hneF.symm 5 0
   refine post_cell2 4 5 30 33 w.heap.size FB _ _ rfl rfl rfl rfl hend.1 hend.2.1 ⟨?_, unitZero, by rw [HRES.out], by rw [HRES.out]; exact UnitRd.zero _⟩
   exact (hB5.trans (hf9.below _ hB5.size (fun k hk e => by omega))).trans (hend.2.2.below _ (Nat.le_trans hB5.size hf9.size) (fun k hk e => by omega))
  | false =>
   go_wp2_with (first
    | (refine l_alloc rfl _ unitZero rfl (run_alloc_unit _) ?_; intro w3 h3 hb3)
    | (refine l_store rfl 30 _ _ w2.heap.size (valsU (newU nm)) unitZero 30 rfl rfl rfl h3 HSS.out HSI.out Z1.out ?_; intro w4 h4 hf4; have hc1 := ((rd h4).1 1).trans HKC.out; have hu := (HZ.out w3 w4 hb3 hf4).1; have hF := (HZ.out w3 w4 hb3 hf4).2.1; have hB4 := (HZ.out w3 w4 hb3 hf4).2.2))
   refine (HBR.out _ hB4).mono ?_
   rintro e w5 ⟨rfl, hb5⟩
   have HU5 := h_ (heap_below hu hb5); have HF5 := h_ (heap_below hF hb5)
   have HB5 := h_ (hB4.trans (hb5.mono hB4.size))
   have HO5 := h_ (valsU_own (newU nm) (newU_len nm) (heap_below h4 hb5))
   obtain ⟨UB, hUB⟩ : ∃ UB, UB = w2.heap.size := ⟨_, rfl⟩
   rw [← hUB] at HO5 hl1 ⊢
   clear hu hF hB4 hb5 h4 hf4 h3 hb3 hc1 HZ hUB
   have HRES := h_ (show makeU nm l = (match linesU nm (kind : Nat) (newU nm) l with
    | .error e => (zeroU, e)
    | .ok u => if wholeU (kind : Nat) u ≠ 0 then (zeroU, (wholeU (kind : Nat) u, 0)) else (u, (0, 0))) by
     unfold makeU
     rw [if_neg (by rw [HK.out, HBB.out]; simp; exact hk0), HK.out] <;> rfl)
   go_wp2_with fail
   go_loopg [24] (l.length + 1) (fun f i wr => ∃ (k : Nat) (cs : Array Value) (F : Nat → Nat → Prop) (u : UV), k ≤ l.length ∧ i = .int .i64 k ∧ l.length - k < f ∧ Hid (UnitOwn wr UB cs F u) ∧ Hid (TypedU u) ∧ Hid (∀ j, (u j).len ≤ 100000) ∧ Hid (u 0 = .s nm) ∧ Hid (u 1 = .n (kind : Nat)) ∧
    Hid (linesU nm (kind : Nat) u (l.drop k) = linesU nm (kind : Nat) (newU nm) l) ∧ Hid (wr.heap[w.heap.size]? = some (.cells unitZero 30 (0, 0))) ∧ Hid (wr.heap[FB]? = some (.cells #[.int .i64 0, .int .i64 0] 33 (0, 0))) ∧ Hid (Below w.heap.size w wr))
   case atStart => exact ⟨0, _, _, _, by omega, rfl, by omega, HO5, TypedU.new nm, fun j => by rw [newU_len]; omega, newU_name nm (by rw [HK.out]; exact hk0), HK1.out, by rw [List.drop_zero]; rfl, HU5, HF5, HB5⟩
   case round =>
    obtain ⟨k, cs, F, u, hk, rfl, hfu, HO, HT, HLN, H0, H1, HQ, HUr, HFr, HBr⟩ := hrel
    clear HO5 HU5 HF5 HB5
    by_cases hlt : k < l.length
    ·have hz : (k : Int) < (l.length : Int) := by omega
     obtain ⟨x, hx⟩ : ∃ x, x = l[k] := ⟨_, rfl⟩
     obtain ⟨b4, o4, rfl, -, hcc⟩ := (HR.out.below HBr.out) k hlt
     rw [← hx] at hcc
     have d0 := hcc 0 _ rfl; have d1 := hcc 1 _ rfl; have d2 := hcc 2 _ rfl; have d3 := hcc 3 _ rfl
     simp only [Nat.add_zero] at d0
     have hxm : x.val.length ≤ 200000000 ∧ ∀ v, specS x.val nm = .ok v → v.length ≤ 100000000 := by rw [hx]; exact HX.out _ (List.getElem_mem hlt)
     have hdr : l.drop k = x :: l.drop (k + 1) := by rw [hx]; exact List.drop_eq_getElem_cons hlt
     have HQ2 := h_ (show linesU nm (kind : Nat) (newU nm) l = match lineU nm (kind : Nat) u x with | .error e => .error (e, x.at_) | .ok r => linesU nm (kind : Nat) r (l.drop (k + 1)) by rw [← HQ.out, hdr, linesU] <;> rfl)
     obtain ⟨xsec, xkey, xval, xat⟩ := x
     have hBx : Below wr.heap.size wr (wr.alloc (.cells #[.string ⟨xsec.toArray⟩, .string ⟨xkey.toArray⟩, .string ⟨xval.toArray⟩, .int .i64 xat] 43)) := (Below.refl _ _).alloc (Nat.le_refl _) _
     have HBx := h_ (HBr.out.trans (hBx.mono HBr.out.size))
     have hOx := HO.out.below hBx
     have HOx := h_ hOx
     have hLn := lineU_any UB cs F u _ hOx HT.out HLN.out (HM.out.below HBx.out) nm (kind : Nat) H0.out H1.out (by omega) ⟨xsec, xkey, xval, xat⟩ hxm.1 hxm.2
     unfold encLn at hLn
     have HLNE := h_ hLn
     have HXB := h_ (heap_alloc_new wr (.cells #[.string ⟨xsec.toArray⟩, .string ⟨xkey.toArray⟩, .string ⟨xval.toArray⟩, .int .i64 xat] 43))
     have HUx := h_ (heap_below HUr.out hBx); have HFx := h_ (heap_below HFr.out hBx)
     have hwsz := HBr.out.size
     have hUBw := lt_heap HO.out.box
     have HFw := h_ (show ∀ j b, F j b → b < wr.heap.size from fun j b h => (HO.out.lt j b h).2)
     clear hx hdr hcc hxm hBx hOx hLn HUr HFr HO
     go_wp2_with fail
     refine HLNE.out.mono ?_
     intro e w8 hlo
     have hUBl := lt_heap HOx.out.box
     have hnot : ∀ b, b < UB → ¬ (b = UB ∨ ∃ j, F j b) := by
      rintro b hb (h | ⟨j, h⟩)
      ·omega
      ·have := (HOx.out.lt j b h).1; omega
     have HU8 := h_ (hlo.1.heap HUx.out (hnot _ (by omega))); have HF8 := h_ (hlo.1.heap HFx.out (hnot _ (by omega)))
     have HX8 := h_ (hlo.1.heap HXB.out (by
      rintro (h | ⟨j, h⟩)
      ·omega
      ·have := HFw.out j _ h; omega))
     have HB8 := h_ (HBx.out.trans (hlo.1.below _ HBx.out.size (fun b hb => hnot b (by omega))))
     obtain ⟨-, hlo⟩ := hlo
     cases hres : lineU nm (kind : Nat) u ⟨xsec, xkey, xval, xat⟩ with
     | error c =>
      rw [hres] at hlo HQ2
      simp only at hlo
      subst hlo
      have hc0 : ((c : Int) != 0) = true := by rw [bne_iff_ne]; exact lineU_err nm (kind : Nat) u _ c hres
      have HRE := h_ (show makeU nm l = (zeroU, (c, xat)) by rw [HRES.out, HQ2.out])
      have HHS := h_ (And.intro HU8.out (And.intro HF8.out HX8.out))
      clear hres hnot
      go_wp2_with fail
      refine wp_region_drawT (S := fun V => V.heap[w.heap.size]? = some (.cells unitZero 30 (0, 0)) ∧ V.heap[FB]? = some (.cells #[.int .i64 0, .int .i64 0] 33 (0, 0)) ∧ V.heap[wr.heap.size]? = some (.cells #[.string ⟨xsec.toArray⟩, .string ⟨xkey.toArray⟩, .string ⟨xval.toArray⟩, .int .i64 xat] 43 (0, 0))) 6 (by kernel_rfl) (by kernel_rfl) (show _ ∧ _ ∧ _ from HHS.out) (fun hHeld => ?_)
      try simp only [Act.put, sA_, sB_, sC_]
      refine dT_ (i := 0) (v := .agg unitZero) (gT_ rfl) (fun W hW => exec_build0 rfl) ?_
      try simp only [Act.put, sA_, sB_, sC_]
      refine dT_ (i := 1) (v := .int .i64 c) (gT_ rfl) (fun W hW => by obtain ⟨x0, x1, x2, x3⟩ := cells4 hW.2.2; clear hW; go_simp) ?_
      try simp only [Act.put, sA_, sB_, sC_]
      refine dT_ (i := 2) (v := .pointer (some ⟨wr.heap.size, 3, none⟩)) (gT_ rfl) (fun W hW => by obtain ⟨x0, x1, x2, x3⟩ := cells4 hW.2.2; clear hW; go_simp) ?_
      try simp only [Act.put, sA_, sB_, sC_]
      refine dT_ (i := 3) (v := .int .i64 xat) (gT_ rfl) (fun W hW => by obtain ⟨x0, x1, x2, x3⟩ := cells4 hW.2.2; clear hW; go_simp) ?_
      try simp only [Act.put, sA_, sB_, sC_]
      refine dT_ (i := 4) (v := .agg #[.int .i64 c, .int .i64 xat]) (gT_ rfl) (fun W hW => by obtain ⟨x0, x1, x2, x3⟩ := cells4 hW.2.2; clear hW; go_simp) ?_
      try simp only [Act.put, sA_, sB_, sC_]
      refine drawT_one (i := 5) (gT_ rfl) (by kernel_rfl) (by kernel_rfl) (fun K hK => ?_)
      clear hHeld
      rw [if_pos (by rfl)]
      refine oper_store_all 30 (.tmp 4) (.tmp 32) w.heap.size unitZero unitZero 30 rfl rfl rfl (show w8.drew.heap[w.heap.size]? = _ from HHS.out.1) rfl rfl Z0.out ?_
      intro w9 h9 hf9
      have HU9 := h_ h9
      have HF9 := h_ (hf9.heap (show w8.drew.heap[FB]? = _ from HHS.out.2.1) hneF2)
      have HX9 := h_ (hf9.heap (show w8.drew.heap[wr.heap.size]? = _ from HHS.out.2.2) (by omega))
      have HB9 := h_ ((HB8.out.trans (show Below w.heap.size w8 w8.drew from below_dn ⟨1, rfl⟩)).trans (hf9.below _ HB8.out.size (fun k hk e => by omega)))
      refine hK.out _ _ (show _ ∧ _ ∧ _ from ⟨HU9.out, HF9.out, HX9.out⟩) (fun hHeld => ?_)
      clear hK K h9 hf9
      try simp only [Act.put, sA_, sB_, sC_]
      refine drawT_done (by kernel_rfl) ?_
      clear hHeld
      obtain ⟨g0, g1, g2, g3, g4⟩ := fault_facts HF9.out
      go_wp2_with fail
      have hend := make_end HU9.out HF9.out hneF.symm c xat
      refine post_cell2 4 5 30 33 w.heap.size FB _ _ rfl rfl rfl rfl hend.1 hend.2.1 ⟨?_, unitZero, by rw [HRE.out], by rw [HRE.out]; exact UnitRd.zero _⟩
      exact HB9.out.trans (hend.2.2.below _ HB9.out.size (fun k hk e => by omega))
     | ok r =>
      rw [hres] at hlo HQ2
      obtain ⟨rfl, cs', F', hO8⟩ := hlo
      obtain ⟨kk, hkk, v, hr, hlong⟩ := lineU_step hres
      have HT8 := h_ (show TypedU r from by rw [hr]; exact HT.out.upd _ _ (fieldS_tag nm kk hkk v _))
      have HL8 := h_ (lens_ok HT8.out hlong)
      have H08 := h_ (show r 0 = .s nm by rw [hr, UV.upd_ne _ _ (fun e => (tabFs kk hkk).2.1 e.symm)]; exact H0.out)
      have H18 := h_ (show r 1 = .n (kind : Nat) by rw [hr, UV.upd_ne _ _ (fun e => (tabFs kk hkk).2.2 e.symm)]; exact H1.out)
      have HO8 := h_ hO8
      have HQ3 := h_ (show linesU nm (kind : Nat) r (l.drop (k + 1)) = linesU nm (kind : Nat) (newU nm) l from HQ2.out.symm)
      clear hres hr hlong hO8 hnot hkk
      go_wp2_with fail
      go_roundg (gk - 1)
      case measure => omega
      case rel => exact ⟨k + 1, cs', F', r, by omega, by go_num, by omega, HO8, HT8, HL8, H08, H18, HQ3, HU8, HF8, HB8⟩
    ·have hk3 : k = l.length := by omega
     subst hk3
     have HQ2 := h_ (show linesU nm (kind : Nat) (newU nm) l = .ok u by rw [← HQ.out, List.drop_of_length_le (Nat.le_refl _)]; rfl)
     have hc7 : cs[7]? = some (cs[7]'(by rw [HO.out.size]; decide)) := Array.getElem?_eq_getElem (by rw [HO.out.size]; decide)
     have hc1 : cs[1]? = some (cs[1]'(by rw [HO.out.size]; decide)) := Array.getElem?_eq_getElem (by rw [HO.out.size]; decide)
     have hf7 := HO.out.fld 7 _ hc7
     have hf1 := HO.out.fld 1 _ hc1
     rw [H1.out] at hf1
     rw [show cs[1]'(by rw [HO.out.size]; decide) = Value.int .i64 (kind : Nat) from hf1] at hc1
     obtain ⟨t7, ht7⟩ := tag_n (HT.out 7)
     rw [ht7] at hf7
     rw [show cs[7]'(by rw [HO.out.size]; decide) = Value.int .i64 t7 from hf7] at hc7
     obtain ⟨c, hcc⟩ : ∃ c, wholeU (kind : Nat) u = c := ⟨_, rfl⟩
     have HWH := h_ (wholeU_any cs u wr (HO.out.lens HT.out) (kind : Nat) t7 hc1 hc7 (by rw [ht7]; rfl) HLN.out c hcc)
     have HSC := h_ (show (Tryz.prog.info? 30).map (·.size) = some cs.size by rw [HO.out.size]; rfl)
     have HRE := h_ (show makeU nm l = if c ≠ 0 then (zeroU, (c, 0)) else (u, (0, 0)) by rw [HRES.out, HQ2.out]; simp only; rw [hcc])
     have hbox := HO.out.box
     have hUBl := lt_heap hbox
     clear hc7 hc1 hf7 hf1 ht7 hcc HQ HQ2 HRES
     go_wp2_with (refine l_load rfl 30 _ UB cs 30 _ rfl rfl hbox rfl rfl HSC.out ?_)
     refine HWH.out.mono ?_
     rintro e w8 ⟨rfl, hb8⟩
     have hU8 := heap_below HUr.out hb8; have hF8 := heap_below HFr.out hb8
     have HB8 := HBr.out.trans (hb8.mono HBr.out.size)
     have HO8 := h_ (HO.out.below hb8)
     clear hb8
     by_cases hc0 : c = 0
     ·subst hc0
      have hbox8 := HO8.out.box
      have HON := h_ (HO8.out.rd.one)
      have HSZ0 := h_ (show unitZero.size = cs.size by rw [HO8.out.size]; rfl)
      go_wp2_with (first
       | (refine l_load rfl 30 _ UB cs 30 _ rfl rfl hbox8 rfl rfl HSC.out ?_)
       | (refine l_store rfl 30 _ _ w.heap.size cs unitZero 30 rfl rfl rfl hU8 HSZ0.out HSC.out HON.out ?_; intro w9 h9 hf9; have hF9 := hf9.heap hF8 hneF2; obtain ⟨g0, g1, g2, g3, g4⟩ := fault_facts hF9))
      have hend := make_end h9 hF9 hneF.symm 0 0 HO8.out.size
      have hOe := (HO8.out.fr hf9 (by omega) (fun j b h e => by have := (HO8.out.lt j b h).1; omega)).fr hend.2.2 (by omega) (fun j b h e => by have := (HO8.out.lt j b h).1; omega)
      refine post_cell2 4 5 30 33 w.heap.size FB _ _ rfl rfl rfl rfl hend.1 hend.2.1 ⟨?_, cs, by rw [HRE.out]; rfl, by rw [HRE.out, if_neg (fun h => h rfl)]; exact hOe.rd⟩
      exact (HB8.trans (hf9.below _ HB8.size (fun k hk e => by omega))).trans (hend.2.2.below _ (Nat.le_trans HB8.size hf9.size) (fun k hk e => by omega))
     ·have hc1 : ((c : Int) != 0) = true := by rw [bne_iff_ne]; exact hc0
      go_wp2_with (first
       | (refine l_build rfl _ #[] #[] _ rfl (by simp) (build_zero _) ?_)
       | (refine l_store rfl 30 _ _ w.heap.size unitZero unitZero 30 rfl rfl rfl hU8 rfl rfl Z0.out ?_; intro w9 h9 hf9; have hF9 := hf9.heap hF8 hneF2; obtain ⟨g0, g1, g2, g3, g4⟩ := fault_facts hF9))
      have hend := make_end h9 hF9 hneF.symm c 0
      refine post_cell2 4 5 30 33 w.heap.size FB _ _ rfl rfl rfl rfl hend.1 hend.2.1 ⟨?_, unitZero, by rw [HRE.out, if_pos hc0], by rw [HRE.out, if_pos hc0]; exact UnitRd.zero _⟩
      exact (HB8.trans (hf9.below _ HB8.size (fun k hk e => by omega))).trans (hend.2.2.below _ (Nat.le_trans HB8.size hf9.size) (fun k hk e => by omega))
theorem makeU_any (nm : Str) (l : List Ln) (oa : Option Addr) (cap : Nat) (w : World) (hM : MaxAt w) (hr : RowRd encLn 4 w oa l) (hl : l.length ≤ 4294967296) (hx : ∀ x ∈ l, x.val.length ≤ 1048576) (hnm : nm.length ≤ 100000000) :
  Calls Tryz.prog 11 #[.string ⟨nm.toArray⟩, .slice oa l.length cap] w fun e w' => MakeOut w (makeU nm l) e w' :=
 makeU_fit nm l oa cap w hM hr hl (fun x h => ⟨by have := hx x h; omega, fun v hv => spec_len hv (hx x h)⟩) hnm
structure Kept (lo hi : Nat) (a a' : Act) : Prop where
 size : a'.tmps.size = a.tmps.size
 defers : a'.defers = a.defers
 slot : ∀ i, i < lo ∨ hi < i → a'.tmps[i]? = a.tmps[i]?
theorem Kept.refl (lo hi : Nat) (a : Act) : Kept lo hi a a := ⟨rfl, rfl, fun _ _ => rfl⟩
theorem Kept.trans {lo hi : Nat} {a b c : Act} (h : Kept lo hi a b) (k : Kept lo hi b c) : Kept lo hi a c := ⟨k.size.trans h.size, k.defers.trans h.defers, fun i hi => (k.slot i hi).trans (h.slot i hi)⟩
theorem Kept.put {lo hi d : Nat} {a b : Act} (h : Kept lo hi a b) (v : Value) (h1 : lo ≤ d) (h2 : d ≤ hi) : Kept lo hi a (b.put (some d) v) := by
 refine ⟨by simp [Act.put, h.size], by simp [Act.put, h.defers], fun i hi => ?_⟩
 rw [← h.slot i hi]
 simp only [Act.put]
 rw [Array.getElem?_setIfInBounds_ne (by omega)]
theorem ex_cons {α : Type} {l : List α} {n : Nat} (h : l.length = n + 1) : ∃ x t, l = x :: t ∧ t.length = n := by
 cases l with
 | nil => simp at h
 | cons x t => exact ⟨x, t, rfl, by simpa using h⟩
theorem Kept.form {a0 a : Act} (h : Kept 9 125 a0 a) (hs : a0.tmps.size = 256) : ∃ us : List Value, us.length = 117 ∧ a = ⟨(a0.tmps.toList.take 9 ++ us ++ a0.tmps.toList.drop 126).toArray, a0.defers⟩ := by
 have h1 : a.tmps.toList.length = 256 := by rw [Array.length_toList, h.size, hs]
 have h0 : a0.tmps.toList.length = 256 := by rw [Array.length_toList, hs]
 refine ⟨(a.tmps.toList.drop 9).take 117, by rw [List.length_take, List.length_drop, h1]; rfl, ?_⟩
 obtain ⟨t, d⟩ := a
 have hd : d = a0.defers := h.defers
 subst hd
 congr 1
 apply Array.ext_getElem?
 intro i
 simp only [List.getElem?_toArray]
 by_cases hi : i < 9
 ·rw [List.getElem?_append_left (by rw [List.length_append, List.length_take]; omega), List.getElem?_append_left (by rw [List.length_take]; omega), List.getElem?_take_of_lt hi]
  have := h.slot i (.inl hi)
  simpa using this
 ·by_cases hi2 : i ≤ 125
  ·rw [List.getElem?_append_left (by rw [List.length_append, List.length_take, List.length_take, List.length_drop]; simp only at h1; omega), List.getElem?_append_right (by rw [List.length_take]; omega), List.length_take, h0, List.getElem?_take_of_lt (by omega), List.getElem?_drop]
   simp only [Array.getElem?_toList]
   congr 1
   omega
  ·rw [List.getElem?_append_right (by rw [List.length_append, List.length_take, List.length_take, List.length_drop]; simp only at h1; omega), List.length_append, List.length_take, List.length_take, List.length_drop, h0, List.getElem?_drop]
   have := h.slot i (.inr (by omega))
   simp only at this h1
   rw [this, h1, Array.getElem?_toList]
   congr 1
   omega
theorem Kept.form2 {a0 a : Act} {lo hi : Nat} (h : Kept lo hi a0 a) (hs : a0.tmps.size = 256) (hlh : lo ≤ hi) (hhi : hi < 256) (n : Nat) (hn : n = hi + 1 - lo) : ∃ us : List Value, us.length = n ∧ a = ⟨(a0.tmps.toList.take lo ++ us ++ a0.tmps.toList.drop (hi + 1)).toArray, a0.defers⟩ := by
 have h1 : a.tmps.toList.length = 256 := by rw [Array.length_toList, h.size, hs]
 have h0 : a0.tmps.toList.length = 256 := by rw [Array.length_toList, hs]
 refine ⟨(a.tmps.toList.drop lo).take n, by rw [List.length_take, List.length_drop, h1]; omega, ?_⟩
 obtain ⟨t, d⟩ := a
 have hd : d = a0.defers := h.defers
 subst hd
 congr 1
 apply Array.ext_getElem?
 intro i
 simp only [List.getElem?_toArray]
 by_cases hi1 : i < lo
 ·rw [List.getElem?_append_left (by rw [List.length_append, List.length_take]; omega), List.getElem?_append_left (by rw [List.length_take]; omega), List.getElem?_take_of_lt hi1]
  have := h.slot i (.inl hi1)
  simpa using this
 ·by_cases hi2 : i ≤ hi
  ·rw [List.getElem?_append_left (by rw [List.length_append, List.length_take, List.length_take, List.length_drop]; simp only at h1; omega), List.getElem?_append_right (by rw [List.length_take]; omega), List.length_take, h0, List.getElem?_take_of_lt (by omega), List.getElem?_drop]
   simp only [Array.getElem?_toList]
   congr 1
   omega
  ·rw [List.getElem?_append_right (by rw [List.length_append, List.length_take, List.length_take, List.length_drop]; simp only at h1; omega), List.length_append, List.length_take, List.length_take, List.length_drop, h0, List.getElem?_drop]
   have := h.slot i (.inr (by omega))
   simp only at this h1
   rw [this, h1, Array.getElem?_toList]
   congr 1
   omega
theorem put_self {a : Act} {d : Nat} (v : Value) (h : d < a.tmps.size) : (a.put (some d) v).tmps[d]? = some v := by
 simp only [Act.put]
 rw [Array.getElem?_setIfInBounds_self_of_lt h]
theorem put_ne {a : Act} {d i : Nat} (v : Value) (h : i ≠ d) : (a.put (some d) v).tmps[i]? = a.tmps[i]? := by
 simp only [Act.put]
 rw [Array.getElem?_setIfInBounds_ne (by omega)]
section
variable {P : Program} {ops : Array Oper} {Q : Exit → Act → World → Prop} {w : World}
theorem l_take {rest : List Oper} {o : Oper} {a : Act} {d : Nat} {v : Value} (hd : o.dst = some d) (hw : Region.wanted o (yielded ops a.tmps) = true) (hr : (execOp a.eval o).run P w = .ok (.value v) w) (h : wpList P ops Q rest (a.put (some d) v) w) : wpList P ops Q (o :: rest) a w := by
 refine wpList_step fun K hK => ?_
 rw [if_pos hw]
 unfold Oper.wp
 rw [hr, Oper.upon_value, hd]
 exact hK _ _ h
theorem l_skip {rest : List Oper} {o : Oper} {a : Act} {d : Nat} (hd : o.dst = some d) (hw : ¬ Region.wanted o (yielded ops a.tmps) = true) (h : wpList P ops Q rest (a.put (some d) undef) w) : wpList P ops Q (o :: rest) a w := by
 refine wpList_step fun K hK => ?_
 rw [if_neg hw, hd]
 exact hK _ _ h
theorem wanted_none {o : Oper} {y : Nat → Option Bool} (h : o.guard = none) : Region.wanted o y = true := by unfold Region.wanted; rw [h]
theorem wanted_yes {o : Oper} {a : Act} {g k : Nat} {c : Bool} (h : o.guard = some (g, c)) (hg : (ops[g]?).bind (·.dst) = some k) (hk : a.tmps[k]? = some (.bool c)) : Region.wanted o (yielded ops a.tmps) = true := by
 unfold Region.wanted yielded; rw [h]; simp [hg, hk]
theorem wanted_no {o : Oper} {a : Act} {g k : Nat} {c : Bool} (h : o.guard = some (g, c)) (hg : (ops[g]?).bind (·.dst) = some k) (hk : a.tmps[k]? = some (.bool !c)) : ¬ Region.wanted o (yielded ops a.tmps) = true := by
 unfold Region.wanted yielded; rw [h]; simp [hg, hk]
theorem and_start {rest : List Oper} {o1 o2 o3 o4 o5 o6 : Oper} {a : Act} (lo hi : Nat) (pA pB vx vy : Value) (e : Bool) (hlo : 3 < lo ∧ lo ≤ 9) (hhi : 14 ≤ hi) (hsz : a.tmps.size = 256)
  (hA : a.tmps[2]? = some pA) (hB : a.tmps[3]? = some pB) (d1 : o1.dst = some 9) (d2 : o2.dst = some 10) (d3 : o3.dst = some 11) (d4 : o4.dst = some 12) (d5 : o5.dst = some 13) (d6 : o6.dst = some 14)
  (g1 : o1.guard = none) (g2 : o2.guard = none) (g3 : o3.guard = none) (g4 : o4.guard = none) (g56 : o5.guard = none ∧ o6.guard = none := by exact ⟨rfl, rfl⟩)
  (x1 : ∀ a' : Act, a'.tmps[2]? = some pA → (execOp a'.eval o1).run P w = .ok (.value pA) w) (x2 : ∀ a' : Act, a'.tmps[9]? = some pA → (execOp a'.eval o2).run P w = .ok (.value vx) w)
  (x3 : ∀ a' : Act, a'.tmps[3]? = some pB → (execOp a'.eval o3).run P w = .ok (.value pB) w) (x4 : ∀ a' : Act, a'.tmps[11]? = some pB → (execOp a'.eval o4).run P w = .ok (.value vy) w)
  (x5 : ∀ a' : Act, a'.tmps[10]? = some vx → a'.tmps[12]? = some vy → (execOp a'.eval o5).run P w = .ok (.value (.bool e)) w) (x6 : ∀ (a' : Act) (v : Value), a'.tmps[13]? = some v → (execOp a'.eval o6).run P w = .ok (.value v) w)
  (h : ∀ a' : Act, Kept lo hi a a' → a'.tmps[14]? = some (.bool e) → wpList P ops Q rest a' w) : wpList P ops Q (o1 :: o2 :: o3 :: o4 :: o5 :: o6 :: rest) a w := by
 refine l_take d1 (wanted_none g1) (x1 a hA) ?_
 have K1 := (Kept.refl lo hi a).put pA (show lo ≤ 9 by omega) (show 9 ≤ hi by omega)
 have s1 : (a.put (some 9) pA).tmps[9]? = some pA := put_self _ (by omega)
 generalize a.put (some 9) pA = a1 at K1 s1 ⊢
 refine l_take d2 (wanted_none g2) (x2 a1 s1) ?_
 have K2 := K1.put vx (show lo ≤ 10 by omega) (show 10 ≤ hi by omega)
 have s2 : (a1.put (some 10) vx).tmps[10]? = some vx := put_self _ (by rw [K1.size]; omega)
 generalize a1.put (some 10) vx = a2 at K2 s2 ⊢
 refine l_take d3 (wanted_none g3) (x3 a2 ((K2.slot 3 (.inl (by omega))).trans hB)) ?_
 have K3 := K2.put pB (show lo ≤ 11 by omega) (show 11 ≤ hi by omega)
 have s3 : (a2.put (some 11) pB).tmps[11]? = some pB := put_self _ (by rw [K2.size]; omega)
 have t3 : (a2.put (some 11) pB).tmps[10]? = some vx := by rw [put_ne _ (by omega)]; exact s2
 generalize a2.put (some 11) pB = a3 at K3 s3 t3 ⊢
 refine l_take d4 (wanted_none g4) (x4 a3 s3) ?_
 have K4 := K3.put vy (show lo ≤ 12 by omega) (show 12 ≤ hi by omega)
 have s4 : (a3.put (some 12) vy).tmps[12]? = some vy := put_self _ (by rw [K3.size]; omega)
 have t4 : (a3.put (some 12) vy).tmps[10]? = some vx := by rw [put_ne _ (by omega)]; exact t3
 generalize a3.put (some 12) vy = a4 at K4 s4 t4 ⊢
 refine l_take d5 (wanted_none g56.1) (x5 a4 t4 s4) ?_
 have K5 := K4.put (.bool e) (show lo ≤ 13 by omega) (show 13 ≤ hi by omega)
 have s5 : (a4.put (some 13) (.bool e)).tmps[13]? = some (.bool e) := put_self _ (by rw [K4.size]; omega)
 generalize a4.put (some 13) (.bool e) = a5 at K5 s5 ⊢
 refine l_take d6 (wanted_none g56.2) (x6 a5 _ s5) ?_
 exact h _ (K5.put _ (by omega) (by omega)) (put_self _ (by rw [K5.size]; omega))
theorem and_block {rest : List Oper} {o1 o2 o3 o4 o5 o6 o7 : Oper} {a : Act} (k g lo hi : Nat) (c e : Bool) (pA pB pA' pB' vx vy : Value) (hlo : lo ≤ k + 1) (hhi : k + 7 ≤ hi) (hlo3 : 3 < lo) (hsz : k + 7 < a.tmps.size)
  (d1 : o1.dst = some (k + 1)) (d2 : o2.dst = some (k + 2)) (d3 : o3.dst = some (k + 3)) (d4 : o4.dst = some (k + 4)) (d5 : o5.dst = some (k + 5)) (d6 : o6.dst = some (k + 6)) (d7 : o7.dst = some (k + 7))
  (g1 : o1.guard = some (g, true)) (g2 : o2.guard = some (g, true)) (g3 : o3.guard = some (g, true)) (g4 : o4.guard = some (g, true)) (g5 : o5.guard = some (g, true)) (g6 : o6.guard = none) (g7 : o7.guard = none) (hg : (ops[g]?).bind (·.dst) = some k)
  (hA : a.tmps[2]? = some pA) (hB : a.tmps[3]? = some pB) (hc : a.tmps[k]? = some (.bool c))
  (x1 : ∀ a' : Act, a'.tmps[2]? = some pA → (execOp a'.eval o1).run P w = .ok (.value pA') w) (x2 : ∀ a' : Act, a'.tmps[k + 1]? = some pA' → (execOp a'.eval o2).run P w = .ok (.value vx) w)
  (x3 : ∀ a' : Act, a'.tmps[3]? = some pB → (execOp a'.eval o3).run P w = .ok (.value pB') w) (x4 : ∀ a' : Act, a'.tmps[k + 3]? = some pB' → (execOp a'.eval o4).run P w = .ok (.value vy) w)
  (x5 : ∀ a' : Act, a'.tmps[k + 2]? = some vx → a'.tmps[k + 4]? = some vy → (execOp a'.eval o5).run P w = .ok (.value (.bool e)) w)
  (x6 : ∀ (a' : Act) (c' : Bool) (v : Value), a'.tmps[k]? = some (.bool c') → a'.tmps[k + 5]? = some v → (execOp a'.eval o6).run P w = .ok (.value (if c' then v else .bool false)) w)
  (x7 : ∀ (a' : Act) (v : Value), a'.tmps[k + 6]? = some v → (execOp a'.eval o7).run P w = .ok (.value v) w)
  (h : ∀ a' : Act, Kept lo hi a a' → a'.tmps[k + 7]? = some (.bool (c && e)) → wpList P ops Q rest a' w) : wpList P ops Q (o1 :: o2 :: o3 :: o4 :: o5 :: o6 :: o7 :: rest) a w := by
 have kt : ∀ {b : Act} {d : Nat} (v : Value), Kept lo hi a b → lo ≤ d → d ≤ hi → Kept lo hi a (b.put (some d) v) := fun v h h1 h2 => h.put v h1 h2
 cases c with
 | true =>
  have w0 : ∀ {o : Oper} {b : Act}, o.guard = some (g, true) → b.tmps[k]? = some (.bool true) → Region.wanted o (yielded ops b.tmps) = true := fun h1 h2 => wanted_yes h1 hg h2
  refine l_take d1 (w0 g1 hc) (x1 a hA) ?_
  have K1 := (Kept.refl lo hi a).put pA' hlo (show k + 1 ≤ hi by omega)
  have s1 : (a.put (some (k + 1)) pA').tmps[k + 1]? = some pA' := put_self _ (by omega)
  have c1 : (a.put (some (k + 1)) pA').tmps[k]? = some (.bool true) := by rw [put_ne _ (by omega)]; exact hc
  generalize a.put (some (k + 1)) pA' = a1 at K1 s1 c1 ⊢
  refine l_take d2 (w0 g2 c1) (x2 a1 s1) ?_
  have K2 := K1.put vx (show lo ≤ k + 2 by omega) (show k + 2 ≤ hi by omega)
  have s2 : (a1.put (some (k + 2)) vx).tmps[k + 2]? = some vx := put_self _ (by rw [K1.size]; omega)
  have c2 : (a1.put (some (k + 2)) vx).tmps[k]? = some (.bool true) := by rw [put_ne _ (by omega)]; exact c1
  generalize a1.put (some (k + 2)) vx = a2 at K2 s2 c2 ⊢
  refine l_take d3 (w0 g3 c2) (x3 a2 ((K2.slot 3 (.inl hlo3)).trans hB)) ?_
  have K3 := K2.put pB' (show lo ≤ k + 3 by omega) (show k + 3 ≤ hi by omega)
  have s3 : (a2.put (some (k + 3)) pB').tmps[k + 3]? = some pB' := put_self _ (by rw [K2.size]; omega)
  have t3 : (a2.put (some (k + 3)) pB').tmps[k + 2]? = some vx := by rw [put_ne _ (by omega)]; exact s2
  have c3 : (a2.put (some (k + 3)) pB').tmps[k]? = some (.bool true) := by rw [put_ne _ (by omega)]; exact c2
  generalize a2.put (some (k + 3)) pB' = a3 at K3 s3 t3 c3 ⊢
  refine l_take d4 (w0 g4 c3) (x4 a3 s3) ?_
  have K4 := K3.put vy (show lo ≤ k + 4 by omega) (show k + 4 ≤ hi by omega)
  have s4 : (a3.put (some (k + 4)) vy).tmps[k + 4]? = some vy := put_self _ (by rw [K3.size]; omega)
  have t4 : (a3.put (some (k + 4)) vy).tmps[k + 2]? = some vx := by rw [put_ne _ (by omega)]; exact t3
  have c4 : (a3.put (some (k + 4)) vy).tmps[k]? = some (.bool true) := by rw [put_ne _ (by omega)]; exact c3
  generalize a3.put (some (k + 4)) vy = a4 at K4 s4 t4 c4 ⊢
  refine l_take d5 (w0 g5 c4) (x5 a4 t4 s4) ?_
  have K5 := K4.put (.bool e) (show lo ≤ k + 5 by omega) (show k + 5 ≤ hi by omega)
  have s5 : (a4.put (some (k + 5)) (.bool e)).tmps[k + 5]? = some (.bool e) := put_self _ (by rw [K4.size]; omega)
  have c5 : (a4.put (some (k + 5)) (.bool e)).tmps[k]? = some (.bool true) := by rw [put_ne _ (by omega)]; exact c4
  generalize a4.put (some (k + 5)) (.bool e) = a5 at K5 s5 c5 ⊢
  refine l_take d6 (wanted_none g6) (x6 a5 true _ c5 s5) ?_
  rw [if_pos rfl]
  have K6 := K5.put (.bool e) (show lo ≤ k + 6 by omega) (show k + 6 ≤ hi by omega)
  have s6 : (a5.put (some (k + 6)) (.bool e)).tmps[k + 6]? = some (.bool e) := put_self _ (by rw [K5.size]; omega)
  generalize a5.put (some (k + 6)) (.bool e) = a6 at K6 s6 ⊢
  refine l_take d7 (wanted_none g7) (x7 a6 _ s6) ?_
  exact h _ (K6.put _ (by omega) (by omega)) (put_self _ (by rw [K6.size]; omega))
 | false =>
  have w0 : ∀ {o : Oper} {b : Act}, o.guard = some (g, true) → b.tmps[k]? = some (.bool false) → ¬ Region.wanted o (yielded ops b.tmps) = true := fun h1 h2 => wanted_no h1 hg h2
  have step : ∀ {b : Act} {d : Nat}, Kept lo hi a b → b.tmps[k]? = some (.bool false) → k < d → d ≤ k + 7 → Kept lo hi a (b.put (some d) undef) ∧ (b.put (some d) undef).tmps[k]? = some (.bool false) := fun h1 h2 h3 h4 => ⟨h1.put _ (by omega) (by omega), by rw [put_ne _ (by omega)]; exact h2⟩
  refine l_skip d1 (w0 g1 hc) ?_
  obtain ⟨K1, c1⟩ := step (Kept.refl lo hi a) hc (show k < k + 1 by omega) (by omega)
  refine l_skip d2 (w0 g2 c1) ?_
  obtain ⟨K2, c2⟩ := step K1 c1 (show k < k + 2 by omega) (by omega)
  refine l_skip d3 (w0 g3 c2) ?_
  obtain ⟨K3, c3⟩ := step K2 c2 (show k < k + 3 by omega) (by omega)
  refine l_skip d4 (w0 g4 c3) ?_
  obtain ⟨K4, c4⟩ := step K3 c3 (show k < k + 4 by omega) (by omega)
  refine l_skip d5 (w0 g5 c4) ?_
  obtain ⟨K5, c5⟩ := step K4 c4 (show k < k + 5 by omega) (by omega)
  refine l_take d6 (wanted_none g6) (x6 _ false undef c5 (put_self _ (by rw [K4.size]; omega))) ?_
  rw [if_neg (by decide)]
  have K6 := K5.put (.bool false) (show lo ≤ k + 6 by omega) (show k + 6 ≤ hi by omega)
  refine l_take d7 (wanted_none g7) (x7 _ _ (put_self _ (by rw [K5.size]; omega))) ?_
  exact h _ (K6.put _ (by omega) (by omega)) (put_self _ (by rw [K6.size]; omega))
theorem and_block6 {rest : List Oper} {o1 o2 o3 o4 o5 o6 : Oper} {a : Act} (k g lo hi : Nat) (c e : Bool) (pA pB pA' pB' vx vy : Value) (hlo : lo ≤ k + 1) (hhi : k + 6 ≤ hi) (hlo3 : 3 < lo) (hsz : k + 6 < a.tmps.size)
  (d1 : o1.dst = some (k + 1)) (d2 : o2.dst = some (k + 2)) (d3 : o3.dst = some (k + 3)) (d4 : o4.dst = some (k + 4)) (d5 : o5.dst = some (k + 5)) (d6 : o6.dst = some (k + 6))
  (g1 : o1.guard = some (g, true)) (g2 : o2.guard = some (g, true)) (g3 : o3.guard = some (g, true)) (g4 : o4.guard = some (g, true)) (g5 : o5.guard = some (g, true)) (g6 : o6.guard = none) (hg : (ops[g]?).bind (·.dst) = some k)
  (hA : a.tmps[2]? = some pA) (hB : a.tmps[3]? = some pB) (hc : a.tmps[k]? = some (.bool c))
  (x1 : ∀ a' : Act, a'.tmps[2]? = some pA → (execOp a'.eval o1).run P w = .ok (.value pA') w) (x2 : ∀ a' : Act, a'.tmps[k + 1]? = some pA' → (execOp a'.eval o2).run P w = .ok (.value vx) w)
  (x3 : ∀ a' : Act, a'.tmps[3]? = some pB → (execOp a'.eval o3).run P w = .ok (.value pB') w) (x4 : ∀ a' : Act, a'.tmps[k + 3]? = some pB' → (execOp a'.eval o4).run P w = .ok (.value vy) w)
  (x5 : ∀ a' : Act, a'.tmps[k + 2]? = some vx → a'.tmps[k + 4]? = some vy → (execOp a'.eval o5).run P w = .ok (.value (.bool e)) w)
  (x6 : ∀ (a' : Act) (c' : Bool) (v : Value), a'.tmps[k]? = some (.bool c') → a'.tmps[k + 5]? = some v → (execOp a'.eval o6).run P w = .ok (.value (if c' then v else .bool false)) w)
  (h : ∀ a' : Act, Kept lo hi a a' → a'.tmps[k + 6]? = some (.bool (c && e)) → wpList P ops Q rest a' w) : wpList P ops Q (o1 :: o2 :: o3 :: o4 :: o5 :: o6 :: rest) a w := by
 have kt : ∀ {b : Act} {d : Nat} (v : Value), Kept lo hi a b → lo ≤ d → d ≤ hi → Kept lo hi a (b.put (some d) v) := fun v h h1 h2 => h.put v h1 h2
 cases c with
 | true =>
  have w0 : ∀ {o : Oper} {b : Act}, o.guard = some (g, true) → b.tmps[k]? = some (.bool true) → Region.wanted o (yielded ops b.tmps) = true := fun h1 h2 => wanted_yes h1 hg h2
  refine l_take d1 (w0 g1 hc) (x1 a hA) ?_
  have K1 := (Kept.refl lo hi a).put pA' hlo (show k + 1 ≤ hi by omega)
  have s1 : (a.put (some (k + 1)) pA').tmps[k + 1]? = some pA' := put_self _ (by omega)
  have c1 : (a.put (some (k + 1)) pA').tmps[k]? = some (.bool true) := by rw [put_ne _ (by omega)]; exact hc
  generalize a.put (some (k + 1)) pA' = a1 at K1 s1 c1 ⊢
  refine l_take d2 (w0 g2 c1) (x2 a1 s1) ?_
  have K2 := K1.put vx (show lo ≤ k + 2 by omega) (show k + 2 ≤ hi by omega)
  have s2 : (a1.put (some (k + 2)) vx).tmps[k + 2]? = some vx := put_self _ (by rw [K1.size]; omega)
  have c2 : (a1.put (some (k + 2)) vx).tmps[k]? = some (.bool true) := by rw [put_ne _ (by omega)]; exact c1
  generalize a1.put (some (k + 2)) vx = a2 at K2 s2 c2 ⊢
  refine l_take d3 (w0 g3 c2) (x3 a2 ((K2.slot 3 (.inl hlo3)).trans hB)) ?_
  have K3 := K2.put pB' (show lo ≤ k + 3 by omega) (show k + 3 ≤ hi by omega)
  have s3 : (a2.put (some (k + 3)) pB').tmps[k + 3]? = some pB' := put_self _ (by rw [K2.size]; omega)
  have t3 : (a2.put (some (k + 3)) pB').tmps[k + 2]? = some vx := by rw [put_ne _ (by omega)]; exact s2
  have c3 : (a2.put (some (k + 3)) pB').tmps[k]? = some (.bool true) := by rw [put_ne _ (by omega)]; exact c2
  generalize a2.put (some (k + 3)) pB' = a3 at K3 s3 t3 c3 ⊢
  refine l_take d4 (w0 g4 c3) (x4 a3 s3) ?_
  have K4 := K3.put vy (show lo ≤ k + 4 by omega) (show k + 4 ≤ hi by omega)
  have s4 : (a3.put (some (k + 4)) vy).tmps[k + 4]? = some vy := put_self _ (by rw [K3.size]; omega)
  have t4 : (a3.put (some (k + 4)) vy).tmps[k + 2]? = some vx := by rw [put_ne _ (by omega)]; exact t3
  have c4 : (a3.put (some (k + 4)) vy).tmps[k]? = some (.bool true) := by rw [put_ne _ (by omega)]; exact c3
  generalize a3.put (some (k + 4)) vy = a4 at K4 s4 t4 c4 ⊢
  refine l_take d5 (w0 g5 c4) (x5 a4 t4 s4) ?_
  have K5 := K4.put (.bool e) (show lo ≤ k + 5 by omega) (show k + 5 ≤ hi by omega)
  have s5 : (a4.put (some (k + 5)) (.bool e)).tmps[k + 5]? = some (.bool e) := put_self _ (by rw [K4.size]; omega)
  have c5 : (a4.put (some (k + 5)) (.bool e)).tmps[k]? = some (.bool true) := by rw [put_ne _ (by omega)]; exact c4
  generalize a4.put (some (k + 5)) (.bool e) = a5 at K5 s5 c5 ⊢
  refine l_take d6 (wanted_none g6) (x6 a5 true _ c5 s5) ?_
  rw [if_pos rfl]
  have K6 := K5.put (.bool e) (show lo ≤ k + 6 by omega) (show k + 6 ≤ hi by omega)
  have s6 : (a5.put (some (k + 6)) (.bool e)).tmps[k + 6]? = some (.bool e) := put_self _ (by rw [K5.size]; omega)
  generalize a5.put (some (k + 6)) (.bool e) = a6 at K6 s6 ⊢
  exact h _ K6 s6
 | false =>
  have w0 : ∀ {o : Oper} {b : Act}, o.guard = some (g, true) → b.tmps[k]? = some (.bool false) → ¬ Region.wanted o (yielded ops b.tmps) = true := fun h1 h2 => wanted_no h1 hg h2
  have step : ∀ {b : Act} {d : Nat}, Kept lo hi a b → b.tmps[k]? = some (.bool false) → k < d → d ≤ k + 6 → Kept lo hi a (b.put (some d) undef) ∧ (b.put (some d) undef).tmps[k]? = some (.bool false) := fun h1 h2 h3 h4 => ⟨h1.put _ (by omega) (by omega), by rw [put_ne _ (by omega)]; exact h2⟩
  refine l_skip d1 (w0 g1 hc) ?_
  obtain ⟨K1, c1⟩ := step (Kept.refl lo hi a) hc (show k < k + 1 by omega) (by omega)
  refine l_skip d2 (w0 g2 c1) ?_
  obtain ⟨K2, c2⟩ := step K1 c1 (show k < k + 2 by omega) (by omega)
  refine l_skip d3 (w0 g3 c2) ?_
  obtain ⟨K3, c3⟩ := step K2 c2 (show k < k + 3 by omega) (by omega)
  refine l_skip d4 (w0 g4 c3) ?_
  obtain ⟨K4, c4⟩ := step K3 c3 (show k < k + 4 by omega) (by omega)
  refine l_skip d5 (w0 g5 c4) ?_
  obtain ⟨K5, c5⟩ := step K4 c4 (show k < k + 5 by omega) (by omega)
  refine l_take d6 (wanted_none g6) (x6 _ false undef c5 (put_self _ (by rw [K4.size]; omega))) ?_
  rw [if_neg (by decide)]
  have K6 := K5.put (.bool false) (show lo ≤ k + 6 by omega) (show k + 6 ≤ hi by omega)
  exact h _ K6 (put_self _ (by rw [K5.size]; omega))
theorem call_block6 {I : World → Prop} {rest : List Oper} {o1 o2 o3 o4 o5 o6 : Oper} {a : Act} {w : World} (hI : I w) (k g lo hi : Nat) (c e : Bool) (pA pB pA' pB' vx vy : Value) (hlo : lo ≤ k + 1) (hhi : k + 6 ≤ hi) (hlo3 : 3 < lo) (hsz : k + 6 < a.tmps.size)
  (d1 : o1.dst = some (k + 1)) (d2 : o2.dst = some (k + 2)) (d3 : o3.dst = some (k + 3)) (d4 : o4.dst = some (k + 4)) (d5 : o5.dst = some (k + 5)) (d6 : o6.dst = some (k + 6))
  (g1 : o1.guard = some (g, true)) (g2 : o2.guard = some (g, true)) (g3 : o3.guard = some (g, true)) (g4 : o4.guard = some (g, true)) (g5 : o5.guard = some (g, true)) (g6 : o6.guard = none) (hg : (ops[g]?).bind (·.dst) = some k)
  (hA : a.tmps[2]? = some pA) (hB : a.tmps[3]? = some pB) (hc : a.tmps[k]? = some (.bool c))
  (x1 : ∀ (a' : Act) (w : World), I w → a'.tmps[2]? = some pA → (execOp a'.eval o1).run P w = .ok (.value pA') w) (x2 : ∀ (a' : Act) (w : World), I w → a'.tmps[k + 1]? = some pA' → (execOp a'.eval o2).run P w = .ok (.value vx) w)
  (x3 : ∀ (a' : Act) (w : World), I w → a'.tmps[3]? = some pB → (execOp a'.eval o3).run P w = .ok (.value pB') w) (x4 : ∀ (a' : Act) (w : World), I w → a'.tmps[k + 3]? = some pB' → (execOp a'.eval o4).run P w = .ok (.value vy) w)
  (x5 : ∀ (a' : Act) (w : World) (K : Act → World → Prop), I w → a'.tmps[k + 2]? = some vx → a'.tmps[k + 4]? = some vy → (∀ w', I w' → K (a'.put (some (k + 5)) (.bool e)) w') → Oper.wp P o5 a' w K Q)
  (x6 : ∀ (a' : Act) (w : World) (c' : Bool) (v : Value), a'.tmps[k]? = some (.bool c') → a'.tmps[k + 5]? = some v → (execOp a'.eval o6).run P w = .ok (.value (if c' then v else .bool false)) w)
  (h : ∀ (a' : Act) (w' : World), I w' → Kept lo hi a a' → a'.tmps[k + 6]? = some (.bool (c && e)) → wpList P ops Q rest a' w') : wpList P ops Q (o1 :: o2 :: o3 :: o4 :: o5 :: o6 :: rest) a w := by
 have kt : ∀ {b : Act} {d : Nat} (v : Value), Kept lo hi a b → lo ≤ d → d ≤ hi → Kept lo hi a (b.put (some d) v) := fun v h h1 h2 => h.put v h1 h2
 cases c with
 | true =>
  have w0 : ∀ {o : Oper} {b : Act}, o.guard = some (g, true) → b.tmps[k]? = some (.bool true) → Region.wanted o (yielded ops b.tmps) = true := fun h1 h2 => wanted_yes h1 hg h2
  refine l_take d1 (w0 g1 hc) (x1 a w hI hA) ?_
  have K1 := (Kept.refl lo hi a).put pA' hlo (show k + 1 ≤ hi by omega)
  have s1 : (a.put (some (k + 1)) pA').tmps[k + 1]? = some pA' := put_self _ (by omega)
  have c1 : (a.put (some (k + 1)) pA').tmps[k]? = some (.bool true) := by rw [put_ne _ (by omega)]; exact hc
  generalize a.put (some (k + 1)) pA' = a1 at K1 s1 c1 ⊢
  refine l_take d2 (w0 g2 c1) (x2 a1 w hI s1) ?_
  have K2 := K1.put vx (show lo ≤ k + 2 by omega) (show k + 2 ≤ hi by omega)
  have s2 : (a1.put (some (k + 2)) vx).tmps[k + 2]? = some vx := put_self _ (by rw [K1.size]; omega)
  have c2 : (a1.put (some (k + 2)) vx).tmps[k]? = some (.bool true) := by rw [put_ne _ (by omega)]; exact c1
  generalize a1.put (some (k + 2)) vx = a2 at K2 s2 c2 ⊢
  refine l_take d3 (w0 g3 c2) (x3 a2 w hI ((K2.slot 3 (.inl hlo3)).trans hB)) ?_
  have K3 := K2.put pB' (show lo ≤ k + 3 by omega) (show k + 3 ≤ hi by omega)
  have s3 : (a2.put (some (k + 3)) pB').tmps[k + 3]? = some pB' := put_self _ (by rw [K2.size]; omega)
  have t3 : (a2.put (some (k + 3)) pB').tmps[k + 2]? = some vx := by rw [put_ne _ (by omega)]; exact s2
  have c3 : (a2.put (some (k + 3)) pB').tmps[k]? = some (.bool true) := by rw [put_ne _ (by omega)]; exact c2
  generalize a2.put (some (k + 3)) pB' = a3 at K3 s3 t3 c3 ⊢
  refine l_take d4 (w0 g4 c3) (x4 a3 w hI s3) ?_
  have K4 := K3.put vy (show lo ≤ k + 4 by omega) (show k + 4 ≤ hi by omega)
  have s4 : (a3.put (some (k + 4)) vy).tmps[k + 4]? = some vy := put_self _ (by rw [K3.size]; omega)
  have t4 : (a3.put (some (k + 4)) vy).tmps[k + 2]? = some vx := by rw [put_ne _ (by omega)]; exact t3
  have c4 : (a3.put (some (k + 4)) vy).tmps[k]? = some (.bool true) := by rw [put_ne _ (by omega)]; exact c3
  generalize a3.put (some (k + 4)) vy = a4 at K4 s4 t4 c4 ⊢
  refine wpList_step fun K hK => ?_
  rw [if_pos (w0 g5 c4)]
  refine x5 a4 w K hI t4 s4 fun w' hI' => hK _ _ ?_
  have K5 := K4.put (.bool e) (show lo ≤ k + 5 by omega) (show k + 5 ≤ hi by omega)
  have s5 : (a4.put (some (k + 5)) (.bool e)).tmps[k + 5]? = some (.bool e) := put_self _ (by rw [K4.size]; omega)
  have c5 : (a4.put (some (k + 5)) (.bool e)).tmps[k]? = some (.bool true) := by rw [put_ne _ (by omega)]; exact c4
  generalize a4.put (some (k + 5)) (.bool e) = a5 at K5 s5 c5 ⊢
  refine l_take d6 (wanted_none g6) (x6 a5 w' true _ c5 s5) ?_
  rw [if_pos rfl]
  have K6 := K5.put (.bool e) (show lo ≤ k + 6 by omega) (show k + 6 ≤ hi by omega)
  have s6 : (a5.put (some (k + 6)) (.bool e)).tmps[k + 6]? = some (.bool e) := put_self _ (by rw [K5.size]; omega)
  generalize a5.put (some (k + 6)) (.bool e) = a6 at K6 s6 ⊢
  exact h _ w' hI' K6 s6
 | false =>
  have w0 : ∀ {o : Oper} {b : Act}, o.guard = some (g, true) → b.tmps[k]? = some (.bool false) → ¬ Region.wanted o (yielded ops b.tmps) = true := fun h1 h2 => wanted_no h1 hg h2
  have step : ∀ {b : Act} {d : Nat}, Kept lo hi a b → b.tmps[k]? = some (.bool false) → k < d → d ≤ k + 6 → Kept lo hi a (b.put (some d) undef) ∧ (b.put (some d) undef).tmps[k]? = some (.bool false) := fun h1 h2 h3 h4 => ⟨h1.put _ (by omega) (by omega), by rw [put_ne _ (by omega)]; exact h2⟩
  refine l_skip d1 (w0 g1 hc) ?_
  obtain ⟨K1, c1⟩ := step (Kept.refl lo hi a) hc (show k < k + 1 by omega) (by omega)
  refine l_skip d2 (w0 g2 c1) ?_
  obtain ⟨K2, c2⟩ := step K1 c1 (show k < k + 2 by omega) (by omega)
  refine l_skip d3 (w0 g3 c2) ?_
  obtain ⟨K3, c3⟩ := step K2 c2 (show k < k + 3 by omega) (by omega)
  refine l_skip d4 (w0 g4 c3) ?_
  obtain ⟨K4, c4⟩ := step K3 c3 (show k < k + 4 by omega) (by omega)
  refine l_skip d5 (w0 g5 c4) ?_
  obtain ⟨K5, c5⟩ := step K4 c4 (show k < k + 5 by omega) (by omega)
  refine l_take d6 (wanted_none g6) (x6 _ w false undef c5 (put_self _ (by rw [K4.size]; omega))) ?_
  rw [if_neg (by decide)]
  have K6 := K5.put (.bool false) (show lo ≤ k + 6 by omega) (show k + 6 ≤ hi by omega)
  exact h _ w hI K6 (put_self _ (by rw [K5.size]; omega))
theorem call_start {I : World → Prop} {rest : List Oper} {o1 o2 o3 o4 o5 o6 : Oper} {a : Act} {w : World} (hI : I w) (k lo hi : Nat) (pA pB pA' pB' vx vy : Value) (e : Bool) (hlo : 3 < lo ∧ lo ≤ k + 1) (hhi : k + 6 ≤ hi) (hsz : k + 6 < a.tmps.size)
  (hA : a.tmps[2]? = some pA) (hB : a.tmps[3]? = some pB) (d1 : o1.dst = some (k + 1)) (d2 : o2.dst = some (k + 2)) (d3 : o3.dst = some (k + 3)) (d4 : o4.dst = some (k + 4)) (d5 : o5.dst = some (k + 5)) (d6 : o6.dst = some (k + 6))
  (g1 : o1.guard = none) (g2 : o2.guard = none) (g3 : o3.guard = none) (g4 : o4.guard = none) (g5 : o5.guard = none) (g6 : o6.guard = none)
  (x1 : ∀ (a' : Act) (w : World), I w → a'.tmps[2]? = some pA → (execOp a'.eval o1).run P w = .ok (.value pA') w) (x2 : ∀ (a' : Act) (w : World), I w → a'.tmps[k + 1]? = some pA' → (execOp a'.eval o2).run P w = .ok (.value vx) w)
  (x3 : ∀ (a' : Act) (w : World), I w → a'.tmps[3]? = some pB → (execOp a'.eval o3).run P w = .ok (.value pB') w) (x4 : ∀ (a' : Act) (w : World), I w → a'.tmps[k + 3]? = some pB' → (execOp a'.eval o4).run P w = .ok (.value vy) w)
  (x5 : ∀ (a' : Act) (w : World) (K : Act → World → Prop), I w → a'.tmps[k + 2]? = some vx → a'.tmps[k + 4]? = some vy → (∀ w', I w' → K (a'.put (some (k + 5)) (.bool e)) w') → Oper.wp P o5 a' w K Q)
  (x6 : ∀ (a' : Act) (w : World) (v : Value), a'.tmps[k + 5]? = some v → (execOp a'.eval o6).run P w = .ok (.value v) w)
  (h : ∀ (a' : Act) (w' : World), I w' → Kept lo hi a a' → a'.tmps[k + 6]? = some (.bool e) → wpList P ops Q rest a' w') : wpList P ops Q (o1 :: o2 :: o3 :: o4 :: o5 :: o6 :: rest) a w := by
 refine l_take d1 (wanted_none g1) (x1 a w hI hA) ?_
 have K1 := (Kept.refl lo hi a).put pA' (show lo ≤ k + 1 by omega) (show k + 1 ≤ hi by omega)
 have s1 : (a.put (some (k + 1)) pA').tmps[k + 1]? = some pA' := put_self _ (by omega)
 generalize a.put (some (k + 1)) pA' = a1 at K1 s1 ⊢
 refine l_take d2 (wanted_none g2) (x2 a1 w hI s1) ?_
 have K2 := K1.put vx (show lo ≤ k + 2 by omega) (show k + 2 ≤ hi by omega)
 have s2 : (a1.put (some (k + 2)) vx).tmps[k + 2]? = some vx := put_self _ (by rw [K1.size]; omega)
 generalize a1.put (some (k + 2)) vx = a2 at K2 s2 ⊢
 refine l_take d3 (wanted_none g3) (x3 a2 w hI ((K2.slot 3 (.inl (by omega))).trans hB)) ?_
 have K3 := K2.put pB' (show lo ≤ k + 3 by omega) (show k + 3 ≤ hi by omega)
 have s3 : (a2.put (some (k + 3)) pB').tmps[k + 3]? = some pB' := put_self _ (by rw [K2.size]; omega)
 have t3 : (a2.put (some (k + 3)) pB').tmps[k + 2]? = some vx := by rw [put_ne _ (by omega)]; exact s2
 generalize a2.put (some (k + 3)) pB' = a3 at K3 s3 t3 ⊢
 refine l_take d4 (wanted_none g4) (x4 a3 w hI s3) ?_
 have K4 := K3.put vy (show lo ≤ k + 4 by omega) (show k + 4 ≤ hi by omega)
 have s4 : (a3.put (some (k + 4)) vy).tmps[k + 4]? = some vy := put_self _ (by rw [K3.size]; omega)
 have t4 : (a3.put (some (k + 4)) vy).tmps[k + 2]? = some vx := by rw [put_ne _ (by omega)]; exact t3
 generalize a3.put (some (k + 4)) vy = a4 at K4 s4 t4 ⊢
 refine wpList_step fun K hK => ?_
 rw [if_pos (wanted_none g5)]
 refine x5 a4 w K hI t4 s4 fun w' hI' => hK _ _ ?_
 have K5 := K4.put (.bool e) (show lo ≤ k + 5 by omega) (show k + 5 ≤ hi by omega)
 have s5 : (a4.put (some (k + 5)) (.bool e)).tmps[k + 5]? = some (.bool e) := put_self _ (by rw [K4.size]; omega)
 generalize a4.put (some (k + 5)) (.bool e) = a5 at K5 s5 ⊢
 refine l_take d6 (wanted_none g6) (x6 a5 w' _ s5) ?_
 exact h _ w' hI' (K5.put _ (by omega) (by omega)) (put_self _ (by rw [K5.size]; omega))
theorem call_op {o : Oper} {a : Act} {K : Act → World → Prop} {f : FuncId} {args : Array Value} {v : Value} {R : Ending → World → Prop} (hx : (execOp a.eval o).run P w = .ok (.enter f args) w) (hc : Calls P f args w R) (hR : ∀ e w', R e w' → e = .returned v ∧ K (a.put o.dst v) w') : Oper.wp P o a w K Q := by
 unfold Oper.wp
 rw [hx, Oper.upon_enter]
 exact hc.mono (fun e w' h => by obtain ⟨rfl, k⟩ := hR e w' h; exact k)
theorem mv_block {rest : List Oper} {o1 o2 o3 : Oper} {a : Act} {w : World} (k g s lo hi : Nat) (c e : Bool) (hlo : lo ≤ k + 1) (hhi : k + 3 ≤ hi) (hsz : k + 3 < a.tmps.size)
  (d1 : o1.dst = some (k + 1)) (d2 : o2.dst = some (k + 2)) (d3 : o3.dst = some (k + 3)) (g1 : o1.guard = some (g, true)) (g2 : o2.guard = none) (g3 : o3.guard = none) (hg : (ops[g]?).bind (·.dst) = some k)
  (hS : a.tmps[s]? = some (.bool e)) (hc : a.tmps[k]? = some (.bool c))
  (x1 : ∀ a' : Act, a'.tmps[s]? = some (.bool e) → (execOp a'.eval o1).run P w = .ok (.value (.bool e)) w)
  (x2 : ∀ (a' : Act) (c' : Bool) (v : Value), a'.tmps[k]? = some (.bool c') → a'.tmps[k + 1]? = some v → (execOp a'.eval o2).run P w = .ok (.value (if c' then v else .bool false)) w)
  (x3 : ∀ (a' : Act) (v : Value), a'.tmps[k + 2]? = some v → (execOp a'.eval o3).run P w = .ok (.value v) w)
  (h : ∀ a' : Act, Kept lo hi a a' → a'.tmps[k + 3]? = some (.bool (c && e)) → wpList P ops Q rest a' w) : wpList P ops Q (o1 :: o2 :: o3 :: rest) a w := by
 cases c with
 | true =>
  refine l_take d1 (wanted_yes g1 hg hc) (x1 a hS) ?_
  have K1 := (Kept.refl lo hi a).put (.bool e) hlo (show k + 1 ≤ hi by omega)
  have s1 : (a.put (some (k + 1)) (.bool e)).tmps[k + 1]? = some (.bool e) := put_self _ (by omega)
  have c1 : (a.put (some (k + 1)) (.bool e)).tmps[k]? = some (.bool true) := by rw [put_ne _ (by omega)]; exact hc
  generalize a.put (some (k + 1)) (.bool e) = a1 at K1 s1 c1 ⊢
  refine l_take d2 (wanted_none g2) (x2 a1 true _ c1 s1) ?_
  rw [if_pos rfl]
  have K2 := K1.put (.bool e) (show lo ≤ k + 2 by omega) (show k + 2 ≤ hi by omega)
  have s2 : (a1.put (some (k + 2)) (.bool e)).tmps[k + 2]? = some (.bool e) := put_self _ (by rw [K1.size]; omega)
  generalize a1.put (some (k + 2)) (.bool e) = a2 at K2 s2 ⊢
  refine l_take d3 (wanted_none g3) (x3 a2 _ s2) ?_
  exact h _ (K2.put _ (by omega) (by omega)) (put_self _ (by rw [K2.size]; omega))
 | false =>
  refine l_skip d1 (wanted_no g1 hg hc) ?_
  have K1 := (Kept.refl lo hi a).put undef hlo (show k + 1 ≤ hi by omega)
  have s1 : (a.put (some (k + 1)) undef).tmps[k + 1]? = some undef := put_self _ (by omega)
  have c1 : (a.put (some (k + 1)) undef).tmps[k]? = some (.bool false) := by rw [put_ne _ (by omega)]; exact hc
  generalize a.put (some (k + 1)) undef = a1 at K1 s1 c1 ⊢
  refine l_take d2 (wanted_none g2) (x2 a1 false _ c1 s1) ?_
  rw [if_neg (by decide)]
  have K2 := K1.put (.bool false) (show lo ≤ k + 2 by omega) (show k + 2 ≤ hi by omega)
  have s2 : (a1.put (some (k + 2)) (.bool false)).tmps[k + 2]? = some (.bool false) := put_self _ (by rw [K1.size]; omega)
  generalize a1.put (some (k + 2)) (.bool false) = a2 at K2 s2 ⊢
  refine l_take d3 (wanted_none g3) (x3 a2 _ s2) ?_
  exact h _ (K2.put _ (by omega) (by omega)) (put_self _ (by rw [K2.size]; omega))
end
end Go.Proofs.YtdjkedcpehhmnaaGreatDoor
