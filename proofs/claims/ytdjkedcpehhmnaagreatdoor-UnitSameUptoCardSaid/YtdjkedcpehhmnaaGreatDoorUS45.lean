import Derived.Test.YtdjkedcpehhmnaaGreatDoorUS32
import Derived.Test.YtdjkedcpehhmnaaGreatDoorUS44
namespace Go.Proofs.YtdjkedcpehhmnaaGreatDoor
open Go Go.RowKit
set_option linter.unusedVariables false
set_option linter.unusedSimpArgs false
set_option maxRecDepth 100000
def zeroPl : Array Value := #[.string ⟨#[]⟩, .string ⟨#[]⟩, .string ⟨#[]⟩, .string ⟨#[]⟩, .string ⟨#[]⟩, .int .i64 0, .int .i64 0, .int .i64 0, .int .i64 0, .int .i64 0, .int .i64 0, .int .i64 0, .int .i64 0, .int .i64 0, .bool false, .bool false, .bool false]
theorem one_pl (x0 : Str) (x2 : Str) (x23 : Str) (x24 : Str) (x34 : Str) (x1 : Int) (x5 : Int) (x6 : Int) (x7 : Int) (x14 : Int) (x15 : Int) (x16 : Int) (x17 : Int) (x22 : Int) (x3 : Bool) (x13 : Bool) (x29 : Bool) : ((#[.string ⟨x0.toArray⟩, .string ⟨x2.toArray⟩, .string ⟨x23.toArray⟩, .string ⟨x24.toArray⟩, .string ⟨x34.toArray⟩, .int .i64 x1, .int .i64 x5, .int .i64 x6, .int .i64 x7, .int .i64 x14, .int .i64 x15, .int .i64 x16, .int .i64 x17, .int .i64 x22, .bool x3, .bool x13, .bool x29] : Array Value).all fun x => x.oneCell') = true := by rw [← Array.all_toList]; rfl
set_option maxHeartbeats 4000000 in
theorem of_any (cs : Array Value) (h35 : cs.size = 35) (x0 : Str) (x2 : Str) (x23 : Str) (x24 : Str) (x34 : Str) (x1 : Int) (x5 : Int) (x6 : Int) (x7 : Int) (x14 : Int) (x15 : Int) (x16 : Int) (x17 : Int) (x22 : Int) (x3 : Bool) (x13 : Bool) (x29 : Bool) (w : World) (h0 : cs[0]? = some (.string ⟨x0.toArray⟩)) (h2 : cs[2]? = some (.string ⟨x2.toArray⟩)) (h23 : cs[23]? = some (.string ⟨x23.toArray⟩)) (h24 : cs[24]? = some (.string ⟨x24.toArray⟩)) (h34 : cs[34]? = some (.string ⟨x34.toArray⟩)) (h1 : cs[1]? = some (.int .i64 x1)) (h5 : cs[5]? = some (.int .i64 x5)) (h6 : cs[6]? = some (.int .i64 x6)) (h7 : cs[7]? = some (.int .i64 x7)) (h14 : cs[14]? = some (.int .i64 x14)) (h15 : cs[15]? = some (.int .i64 x15)) (h16 : cs[16]? = some (.int .i64 x16)) (h17 : cs[17]? = some (.int .i64 x17)) (h22 : cs[22]? = some (.int .i64 x22)) (h3 : cs[3]? = some (.bool x3)) (h13 : cs[13]? = some (.bool x13)) (h29 : cs[29]? = some (.bool x29)) :
  Calls Tryz.prog 43 #[.agg cs] w fun e w' => e = .returned (.agg #[.string ⟨x0.toArray⟩, .string ⟨x2.toArray⟩, .string ⟨x23.toArray⟩, .string ⟨x24.toArray⟩, .string ⟨x34.toArray⟩, .int .i64 x1, .int .i64 x5, .int .i64 x6, .int .i64 x7, .int .i64 x14, .int .i64 x15, .int .i64 x16, .int .i64 x17, .int .i64 x22, .bool x3, .bool x13, .bool x29]) ∧ Below w.heap.size w w' := by
 have hB1 : Below w.heap.size w (w.alloc (.cells cs 30)) := (Below.refl _ _).alloc (Nat.le_refl _) _
 have hz : (w.alloc (.cells cs 30)).heap.size = w.heap.size + 1 := by simp
 have hB2 : Below (w.alloc (.cells cs 30)).heap.size (w.alloc (.cells cs 30)) ((w.alloc (.cells cs 30)).alloc (.cells zeroPl 88)) := (Below.refl _ _).alloc (Nat.le_refl _) _
 have hga := heap_below (heap_alloc_new w (.cells cs 30)) hB2
 have hgb := heap_alloc_new (w.alloc (.cells cs 30)) (.cells zeroPl 88)
 rw [hz] at hgb
 have HB := h_ (Below.more hB1 hB2)
 obtain ⟨w2, hw2⟩ : ∃ w2, w2 = (w.alloc (.cells cs 30)).alloc (.cells zeroPl 88) := ⟨_, rfl⟩
 rw [← hw2] at hga hgb HB
 have HGB := h_ hgb; have HW2 := h_ hw2
 have hc := (rd hga).1
 have k0 := (hc 0).trans h0
 have k2 := (hc 2).trans h2
 have k23 := (hc 23).trans h23
 have k24 := (hc 24).trans h24
 have k34 := (hc 34).trans h34
 have k1 := (hc 1).trans h1
 have k5 := (hc 5).trans h5
 have k6 := (hc 6).trans h6
 have k7 := (hc 7).trans h7
 have k14 := (hc 14).trans h14
 have k15 := (hc 15).trans h15
 have k16 := (hc 16).trans h16
 have k17 := (hc 17).trans h17
 have k22 := (hc 22).trans h22
 have k3 := (hc 3).trans h3
 have k13 := (hc 13).trans h13
 have k29 := (hc 29).trans h29
 clear hB1 hB2 hz hga hgb hw2 hc h0 h2 h23 h24 h34 h1 h5 h6 h7 h14 h15 h16 h17 h22 h3 h13 h29
 go_enter Tryz.func43, Tryz.ntmps43
 go_upto_region 1 with fail
 unfold zeroPl at HW2
 rw [← HW2.out]
 clear HW2
 go_wp2_with (refine l_store rfl 88 _ _ (w.heap.size + 1) #[.string ⟨x0.toArray⟩, .string ⟨x2.toArray⟩, .string ⟨x23.toArray⟩, .string ⟨x24.toArray⟩, .string ⟨x34.toArray⟩, .int .i64 x1, .int .i64 x5, .int .i64 x6, .int .i64 x7, .int .i64 x14, .int .i64 x15, .int .i64 x16, .int .i64 x17, .int .i64 x22, .bool x3, .bool x13, .bool x29] zeroPl 88 rfl rfl rfl HGB.out rfl rfl (one_pl x0 x2 x23 x24 x34 x1 x5 x6 x7 x14 x15 x16 x17 x22 x3 x13 x29) ?_; intro w4 h4 hf4)
 refine post_cell 2 88 (w.heap.size + 1) (.agg #[.string ⟨x0.toArray⟩, .string ⟨x2.toArray⟩, .string ⟨x23.toArray⟩, .string ⟨x24.toArray⟩, .string ⟨x34.toArray⟩, .int .i64 x1, .int .i64 x5, .int .i64 x6, .int .i64 x7, .int .i64 x14, .int .i64 x15, .int .i64 x16, .int .i64 x17, .int .i64 x22, .bool x3, .bool x13, .bool x29]) rfl rfl rfl (loadVar_all 88 _ rfl rfl rfl h4) ⟨rfl, HB.out.trans (hf4.below _ HB.out.size (fun k hk e => by omega))⟩
theorem ite_and {p : Prop} [Decidable p] (q c : Bool) (X : Result Bool) (w : World) (hq : q = true ↔ p) (h : X = .ok c w) : (if p then X else .ok false w) = .ok (q && c) w := by
 by_cases e : p
 ·rw [if_pos e, h, hq.2 e]; rfl
 ·rw [if_neg e, Bool.eq_false_iff.2 (fun h => e (hq.1 h))]; rfl
theorem ite_last {p : Prop} [Decidable p] (q : Bool) (w : World) (hq : q = true ↔ p) : (if p then Result.ok true w else .ok false w) = .ok q w := by
 by_cases e : p
 ·rw [if_pos e, hq.2 e]
 ·rw [if_neg e, Bool.eq_false_iff.2 (fun h => e (hq.1 h))]
set_option maxHeartbeats 4000000 in
theorem eqPl (x0 : Str) (x2 : Str) (x23 : Str) (x24 : Str) (x34 : Str) (x1 : Int) (x5 : Int) (x6 : Int) (x7 : Int) (x14 : Int) (x15 : Int) (x16 : Int) (x17 : Int) (x22 : Int) (x3 : Bool) (x13 : Bool) (x29 : Bool) (y0 : Str) (y2 : Str) (y23 : Str) (y24 : Str) (y34 : Str) (y1 : Int) (y5 : Int) (y6 : Int) (y7 : Int) (y14 : Int) (y15 : Int) (y16 : Int) (y17 : Int) (y22 : Int) (y3 : Bool) (y13 : Bool) (y29 : Bool) (w : World) (r : Bool) (hr : ((x0 == y0) && ((x2 == y2) && ((x23 == y23) && ((x24 == y24) && ((x34 == y34) && ((x1 == y1) && ((x5 == y5) && ((x6 == y6) && ((x7 == y7) && ((x14 == y14) && ((x15 == y15) && ((x16 == y16) && ((x17 == y17) && ((x22 == y22) && ((x3 == y3) && ((x13 == y13) && (x29 == y29))))))))))))))))) = r) : (Op.equalIn 10000 88 (.agg #[.string ⟨x0.toArray⟩, .string ⟨x2.toArray⟩, .string ⟨x23.toArray⟩, .string ⟨x24.toArray⟩, .string ⟨x34.toArray⟩, .int .i64 x1, .int .i64 x5, .int .i64 x6, .int .i64 x7, .int .i64 x14, .int .i64 x15, .int .i64 x16, .int .i64 x17, .int .i64 x22, .bool x3, .bool x13, .bool x29]) (.agg #[.string ⟨y0.toArray⟩, .string ⟨y2.toArray⟩, .string ⟨y23.toArray⟩, .string ⟨y24.toArray⟩, .string ⟨y34.toArray⟩, .int .i64 y1, .int .i64 y5, .int .i64 y6, .int .i64 y7, .int .i64 y14, .int .i64 y15, .int .i64 y16, .int .i64 y17, .int .i64 y22, .bool y3, .bool y13, .bool y29])).run Tryz.prog w = .ok r w := by
 have u3 := Tryz.underlying3
 have u9 := Tryz.underlying9
 have u4 := Tryz.underlying4
 have a3 := Tryz.isAgg3
 have z3 := Tryz.sizeOf3
 have a9 := Tryz.isAgg9
 have z9 := Tryz.sizeOf9
 have a4 := Tryz.isAgg4
 have z4 := Tryz.sizeOf4
 have hS : Tryz.prog.underlying 88 = some (.struct (Tryz.prog.fieldsOf 88)) := by kernel_rfl
 have hp : Tryz.prog.stoodInHeld 88 = false := by kernel_rfl
 rw [show (10000 : Nat) = 9999 + 1 from rfl, run_equalIn_agg w 9999 88 _ _ hS hp]
 simp only [Program.fieldsOf, Tryz.underlying88]
 have HR := h_ hr
 clear hr
 go_simp
 rw [← HR.out]
 repeat (first | exact ite_last _ _ beq_iff_eq | refine ite_and _ _ _ _ beq_iff_eq ?_)
theorem run_eql_pl (x0 : Str) (x2 : Str) (x23 : Str) (x24 : Str) (x34 : Str) (x1 : Int) (x5 : Int) (x6 : Int) (x7 : Int) (x14 : Int) (x15 : Int) (x16 : Int) (x17 : Int) (x22 : Int) (x3 : Bool) (x13 : Bool) (x29 : Bool) (y0 : Str) (y2 : Str) (y23 : Str) (y24 : Str) (y34 : Str) (y1 : Int) (y5 : Int) (y6 : Int) (y7 : Int) (y14 : Int) (y15 : Int) (y16 : Int) (y17 : Int) (y22 : Int) (y3 : Bool) (y13 : Bool) (y29 : Bool) (w : World) (r : Bool) (hr : ((x0 == y0) && ((x2 == y2) && ((x23 == y23) && ((x24 == y24) && ((x34 == y34) && ((x1 == y1) && ((x5 == y5) && ((x6 == y6) && ((x7 == y7) && ((x14 == y14) && ((x15 == y15) && ((x16 == y16) && ((x17 == y17) && ((x22 == y22) && ((x3 == y3) && ((x13 == y13) && (x29 == y29))))))))))))))))) = r) : (binOp .eql 88 (.agg #[.string ⟨x0.toArray⟩, .string ⟨x2.toArray⟩, .string ⟨x23.toArray⟩, .string ⟨x24.toArray⟩, .string ⟨x34.toArray⟩, .int .i64 x1, .int .i64 x5, .int .i64 x6, .int .i64 x7, .int .i64 x14, .int .i64 x15, .int .i64 x16, .int .i64 x17, .int .i64 x22, .bool x3, .bool x13, .bool x29]) (.agg #[.string ⟨y0.toArray⟩, .string ⟨y2.toArray⟩, .string ⟨y23.toArray⟩, .string ⟨y24.toArray⟩, .string ⟨y34.toArray⟩, .int .i64 y1, .int .i64 y5, .int .i64 y6, .int .i64 y7, .int .i64 y14, .int .i64 y15, .int .i64 y16, .int .i64 y17, .int .i64 y22, .bool y3, .bool y13, .bool y29])).run Tryz.prog w = .ok (.bool r) w := by
 rw [run_eql_struct, eqPl x0 x2 x23 x24 x34 x1 x5 x6 x7 x14 x15 x16 x17 x22 x3 x13 x29 y0 y2 y23 y24 y34 y1 y5 y6 y7 y14 y15 y16 y17 y22 y3 y13 y29 w r hr]; rfl
theorem guardPl : Tryz.prog.eqGuardType Tryz.prog.depth 88 = false := by kernel_rfl
theorem run_guard_pl (op : BinOp) (x y : Operand) (xs ys : Array Value) (w : World) : (eqGuard op 88 x y (.agg xs) (.agg ys)).run Tryz.prog w = .ok () w := run_eqGuard_agg w op _ x y xs ys guardPl
end Go.Proofs.YtdjkedcpehhmnaaGreatDoor
