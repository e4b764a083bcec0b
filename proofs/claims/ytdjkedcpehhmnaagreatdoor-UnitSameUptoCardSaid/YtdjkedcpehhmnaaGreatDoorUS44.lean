import Derived.Test.YtdjkedcpehhmnaaGreatDoorUS36
import Derived.Test.YtdjkedcpehhmnaaGreatDoorUS42
namespace Go.Proofs.YtdjkedcpehhmnaaGreatDoor
open Go Go.RowKit
set_option linter.unusedVariables false
set_option linter.unusedSimpArgs false
set_option maxRecDepth 100000
theorem one_fault (c a : Int) : ((#[.int .i64 c, .int .i64 a] : Array Value).all fun x => x.oneCell') = true := by rw [← Array.all_toList]; rfl
theorem two_vars {w2 w3 w4 : World} {cs : Array Value} (h3 : w3.heap[w2.heap.size]? = some (.cells unitZero 30 (0, 0))) (hb3 : Below w2.heap.size w2 w3)
  (h4 : w4.heap[w2.heap.size]? = some (.cells cs 30 (0, 0))) (hf4 : Fr (fun k => k = w2.heap.size) (w3.alloc (.cells #[.int .i64 0, .int .i64 0] 33)) w4) :
  w4.heap[w3.heap.size]? = some (.cells #[.int .i64 0, .int .i64 0] 33 (0, 0)) ∧ Below w2.heap.size w2 w4 ∧ w2.heap.size < w3.heap.size := by
 have hlt := lt_heap h3
 have hF := heap_alloc_new w3 (.cells #[.int .i64 0, .int .i64 0] 33)
 exact ⟨hf4.heap hF (by omega), (hb3.alloc hb3.size _).trans (hf4.below _ (by have := hb3.size; simp; omega) (fun k hk e => by omega)), hlt⟩
theorem two_vars2 {w2 w3 w4 w5 : World} {cs : Array Value} (h4 : w4.heap[w2.heap.size]? = some (.cells cs 30 (0, 0)))
  (h : w4.heap[w3.heap.size]? = some (.cells #[.int .i64 0, .int .i64 0] 33 (0, 0)) ∧ Below w2.heap.size w2 w4 ∧ w2.heap.size < w3.heap.size) (hf5 : Fr (fun k => k = w3.heap.size) w4 w5) :
  w5.heap[w2.heap.size]? = some (.cells cs 30 (0, 0)) ∧ Below w2.heap.size w2 w5 ∧ w2.heap.size < w3.heap.size :=
 ⟨hf5.heap h4 (by omega), h.2.1.trans (hf5.below _ h.2.1.size (fun k hk e => by omega)), h.2.2⟩
theorem field_unit22 (cs : Array Value) (v : Value) (h : cs[22]? = some v) (W : World) : (Instr.field 30 (.agg cs) 22).run Tryz.prog W = .ok v W := by
 have e : (asAgg (Value.agg cs)).run Tryz.prog W = .ok cs W := rfl
 simp [Instr.field, go_sem, e, h]
theorem shown_field : (valsU (newU aSock))[22]? = some (.int .i64 16) := by
 rw [valsU_at _ 22 (by decide), shown_sock]; rfl
set_option maxHeartbeats 8000000 in
theorem shownU_any (w : World) (hM : MaxAt w) : Calls Tryz.prog 10 #[] w fun e w' => e = .returned (.bool true) ∧ Below w.heap.size w w' := by
 let cells : Array Value := (shownLs.flatMap encLn).toArray
 let a1 := w.alloc (.cells cells 43)
 have hB1 : Below w.heap.size w a1 := (Below.refl _ _).alloc (Nat.le_refl _) _
 have hg : a1.heap[w.heap.size]? = some (.cells cells 43 (0, 0)) := heap_alloc_new w _
 have hrow : RowRd encLn 4 a1 (some ⟨w.heap.size, 0, none⟩) shownLs := by
  intro i hi
  refine ⟨w.heap.size, 0, rfl, lt_heap hg, fun j v hj => ?_⟩
  rw [(rd hg).1]
  have h3 : shownLs.length = 3 := rfl
  rcases (show i = 0 ∨ i = 1 ∨ i = 2 by omega) with rfl | rfl | rfl
  all_goals
   rcases j with _ | _ | _ | _ | j
   ·exact hj
   ·exact hj
   ·exact hj
   ·exact hj
   ·exact absurd hj (by simp [encLn])
 have hx : ∀ x ∈ shownLs, x.val.length ≤ 1048576 := by decide
 have HRW := h_ (fun W (h : Below a1.heap.size a1 W) => hrow.below h)
 have HM := h_ (fun W (h : Below w.heap.size w W) => hM.below h)
 have HMK := h_ (makeU_any axName shownLs (some ⟨w.heap.size, 0, none⟩) 3 a1 (hM.below hB1) hrow (by decide) hx (by decide))
 have HB1 := h_ hB1
 have HMK2 := h_ (fun W (h : Below w.heap.size w W) (hr : RowRd encLn 4 W (some ⟨w.heap.size, 0, none⟩) shownLs) => makeU_any bName (shownLs.take 1) (some ⟨w.heap.size, 0, none⟩) 3 W (hM.below h) (hr.take 1) (by decide) (by decide) (by decide))
 have HN := h_ (fun W (h : Below w.heap.size w W) => new_any aSock W (by decide) (hM.below h))
 clear hg hrow hx hM hB1
 go_enter Tryz.func10, Tryz.ntmps10
 go_wp2_with fail
 refine HMK.out.mono ?_
 rintro e w2 ⟨hb2, cs, rfl, hrd⟩
 rw [shown_fault] at *
 have HB2 := h_ (HB1.out.trans (hb2.mono HB1.out.size))
 have HR2 := h_ (HRW.out w2 hb2)
 have HU := h_ hrd
 have HON := h_ hrd.one
 have HSC := h_ (show (Tryz.prog.info? 30).map (·.size) = some cs.size by rw [hrd.size]; rfl)
 have HSZ := h_ (show unitZero.size = cs.size by rw [hrd.size]; rfl)
 clear hb2 hrd HMK HB1 HRW
 go_wp2_with (first
  | (refine l_alloc rfl _ unitZero rfl (run_alloc_unit _) ?_; intro w3 h3 hb3)
  | (refine l_store rfl 30 _ _ w2.heap.size cs unitZero 30 rfl rfl rfl (heap_below h3 ((Below.refl _ _).alloc (Nat.le_refl _) _)) HSZ.out HSC.out HON.out ?_; intro w4 h4 hf4; have tv := two_vars h3 hb3 h4 hf4; refine l_store rfl 33 (.tmp 3) (.tmp 14) w3.heap.size #[.int .i64 0, .int .i64 0] #[.int .i64 0, .int .i64 0] 33 rfl rfl rfl tv.1 rfl rfl (one_fault 0 0) ?_; intro w5 h5 hf5; have tw := two_vars2 h4 tv hf5))
 have HR5 := h_ (HR2.out.below tw.2.1)
 have HB5 := h_ (HB2.out.trans (tw.2.1.mono HB2.out.size))
 have HU5 := h_ (HU.out.below tw.2.1)
 have HX5 := h_ tw.1; have HF5 := h_ h5; have HL5 := h_ tw.2.2
 clear h3 hb3 h4 hf4 tv hf5 tw h5 HU HR2 HB2
 refine (HMK2.out w5 HB5.out HR5.out).mono ?_
 rintro e w6 ⟨hb6, cs6, rfl, hrd6⟩
 rw [shown_second] at *
 have HB6 := h_ (HB5.out.trans (hb6.mono HB5.out.size))
 have HU6 := h_ (HU5.out.below hb6)
 have HX6 := h_ (heap_below HX5.out hb6); have HF6 := h_ (heap_below HF5.out hb6)
 have HON6 := h_ hrd6.one
 have HSC6 := h_ (show (Tryz.prog.info? 30).map (·.size) = some cs6.size by rw [hrd6.size]; rfl)
 have HSZ6 := h_ (show unitZero.size = cs6.size by rw [hrd6.size]; rfl)
 clear hb6 hrd6 HMK2 HB5 HU5 HX5 HF5 HR5
 go_upto_region 4 with (first
  | (refine l_alloc rfl _ unitZero rfl (run_alloc_unit _) ?_; intro w7 h7 hb7)
  | (refine l_store rfl 30 (.tmp 4) _ w6.heap.size cs6 unitZero 30 rfl rfl rfl (heap_below h7 ((Below.refl _ _).alloc (Nat.le_refl _) _)) HSZ6.out HSC6.out HON6.out ?_; intro w8 h8 hf8; have tv := two_vars h7 hb7 h8 hf8; refine l_store rfl 33 (.tmp 5) (.tmp 20) w7.heap.size #[.int .i64 12, .int .i64 1] #[.int .i64 0, .int .i64 0] 33 rfl rfl rfl tv.1 rfl rfl (one_fault 12 1) ?_; intro w9 h9 hf9; have tw := two_vars2 h8 tv hf9))
 have HX9 := h_ (heap_below HX6.out tw.2.1); have HF9 := h_ (heap_below HF6.out tw.2.1); have HG9 := h_ h9
 have HU9 := h_ (HU6.out.below tw.2.1).see
 have HB9 := h_ (HB6.out.trans (tw.2.1.mono HB6.out.size))
 have HN9 := h_ (HN.out w9 HB9.out)
 clear h7 hb7 h8 hf8 tv hf9 tw h9 HU6 HX6 HF6 HB6 HN HM
 obtain ⟨x0, x1, -, -⟩ := fault_facts HF9.out
 obtain ⟨y0, y1, -, -⟩ := fault_facts HG9.out
 obtain ⟨v4, q4, s4⟩ := HU9.out.at 4 (by decide)
 rw [shown_rels] at s4
 obtain ⟨o4, p4, rfl, r4, -⟩ := s4
 obtain ⟨b4, f4, rfl, -, c4⟩ := r4 0 (by decide)
 have d40 := c4 0 _ rfl; have d41 := c4 1 _ rfl
 have z4 := ((rd HX9.out).1 4).trans q4
 obtain ⟨v9, q9, s9⟩ := HU9.out.at 9 (by decide)
 rw [shown_start] at s9
 obtain ⟨o9, p9, xs, rfl, ⟨xl, xr, xsee⟩, -⟩ := s9
 rcases xs with _ | ⟨x, _ | ⟨_, _⟩⟩
 ·cases xl
 ·obtain ⟨b9, f9, rfl, -, c9⟩ := xr 0 Nat.zero_lt_one
  have d90 := c9 0 _ rfl; have d91 := c9 1 _ rfl
  have see := xsee 0 Nat.zero_lt_one Nat.zero_lt_one
  obtain ⟨xd, xa, xn, xc⟩ := x
  obtain rfl : xd = true := see.dash
  obtain rfl : xn = 2 := see.wn
  obtain ⟨b8, f8, e8, d8⟩ := see.row 1 (by decide)
  have e8' : xa = some ⟨b8, f8, none⟩ := e8
  subst e8'
  have z9 := ((rd HX9.out).1 9).trans q9
  obtain ⟨v14, q14, s14⟩ := HU9.out.at 14 (by decide)
  rw [shown_again] at s14
  obtain rfl : v14 = .int .i64 5 := s14
  have z14 := ((rd HX9.out).1 14).trans q14
  obtain ⟨v16, q16, s16⟩ := HU9.out.at 16 (by decide)
  rw [shown_up] at s16
  obtain rfl : v16 = .int .i64 90 := s16
  have z16 := ((rd HX9.out).1 16).trans q16
  have hfl := field_unit22 _ _ shown_field
  clear c4 r4 q4 c9 xr xsee xl see q9 q14 q16 e8
  simp only [List.length_cons, List.length_nil, Nat.zero_mul, Nat.add_zero, Nat.zero_add] at d40 d41 d90 d91 d8 z4 z9
  go_wp2_with fail
  refine HN9.out.mono ?_
  rintro e w10 ⟨rfl, hb10⟩
  have HB10 := h_ (HB9.out.trans (hb10.mono HB9.out.size))
  clear hb10
  go_wp2_with fail
  go_ret
  exact ⟨rfl, HB10.out⟩
 ·cases xl
theorem cat_okU (a b : ByteArray) (h : a.size + b.size < 4611686018427387904) : Op.stringOp .add a b = pure (.string (a ++ b)) := by
 have : ¬ ((a.size + b.size : Nat) : Int) > IntKind.i64.max := by simp [IntKind.max, IntKind.bits, IntKind.signed]; omega
 simp only [Op.stringOp, if_neg this]
theorem cat_lists (x y : Str) (h : x.length + y.length < 4611686018427387904) : Op.stringOp .add ⟨x.toArray⟩ ⟨y.toArray⟩ = pure (.string ⟨(x ++ y).toArray⟩) := by
 rw [cat_okU ⟨x.toArray⟩ ⟨y.toArray⟩ (by simp [ByteArray.size]; omega)]
 congr 2
theorem l_load_w {P : Program} {w : World} {ops : Array Oper} {rest : List Oper} {o : Oper} {a : Act} {Q : Exit → Act → World → Prop} (hg : Region.wanted o (yielded ops a.tmps) = true) (t : TypeId) (x : Operand) (b : Nat) (cells : Array Value) (T : TypeId) (d : TypeDesc) (ho : o.op = Op.load t x)
  (hx : a.eval x = .pointer (some ⟨b, 0, none⟩)) (hw : w.heap[b]? = some (.cells cells T (0, 0))) (hd : P.underlying t = some d) (hr : d.isRow = true) (hi : (P.info? t).map (·.size) = some cells.size)
  (h : wpList P ops Q rest (a.put o.dst (.agg cells)) w) : wpList P ops Q (o :: rest) a w := by
 refine wpList_step fun K hK => ?_
 rw [if_pos hg]
 exact oper_load_all t x b cells T d ho hx hw hd hr hi (hK _ _ h)
end Go.Proofs.YtdjkedcpehhmnaaGreatDoor
