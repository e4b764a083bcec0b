/-
  matinslaw7: shown.
-/
import Derived.Test.YtbgjpglnikbflaaDoorRef7D
import Derived.Test.YtbgjpglnikbflaaDoorLinesE
import Derived.Test.YtbgjpglnikbflaaDoorLaw7A
namespace Go.Proofs.YtbgjpglnikbflaaDoor
open Go Go.RowKit
set_option linter.unusedVariables false
set_option maxRecDepth 100000

theorem parse_all (s : ByteArray) (w : World) (hm : MaxAt w) (hs : s.size ≤ 1000000000) (res : Except (Nat × Nat) (List Ln)) (hres : parseS s.data.toList = res) :
    Calls Tryd.prog 11 #[.string s] w fun e w' => OutP w res e w' := by
  have hl : s.data.toList.length = s.size := by simp
  unfold parseS at hres
  rw [hl] at hres
  by_cases h : s.size ≤ 20000
  · rw [if_pos h] at hres
    exact parse_any s w hm h res hres
  · rw [if_neg h] at hres
    subst hres
    exact parse_long s w (by omega)
theorem parseR_all (s : ByteArray) (w : World) (hs : s.size ≤ 1000000000) (res : Except (Nat × Nat) (List Ln)) (hres : parseS s.data.toList = res) :
    Calls Tryd.prog 12 #[.string s] w fun e w' => OutP w res e w' := by
  have hl : s.data.toList.length = s.size := by simp
  unfold parseS at hres
  rw [hl] at hres
  by_cases h : s.size ≤ 20000
  · rw [if_pos h] at hres
    exact parseR_any s w h res hres
  · rw [if_neg h] at hres
    subst hres
    exact parseR_long s w (by omega)

theorem faultFields : (Tryd.prog.fieldsOf 26).toList.map (fun f => (f.name, f.offset)) = [("Code", 0), ("At", 1)] := by kernel_rfl
theorem faultTypes : (Tryd.prog.fieldsOf 26).toList.map (fun f => Tryd.prog.underlying f.type) = [some (.int .i64), some (.int .i64)] := by kernel_rfl
theorem faultStruct : Tryd.prog.underlying 26 = some (.struct (Tryd.prog.fieldsOf 26)) := by kernel_rfl
theorem faultHeld : Tryd.prog.stoodInHeld 26 = false := by kernel_rfl
theorem faultGuard : Tryd.prog.eqGuardType Tryd.prog.depth 26 = false := by kernel_rfl
theorem eqFault (a b c d : Int) (w : World) : (Op.equalIn 10000 26 (.agg #[.int .i64 a, .int .i64 b]) (.agg #[.int .i64 c, .int .i64 d])).run Tryd.prog w = .ok (a == c && b == d) w := by
  rw [run_equalIn_agg _ _ _ _ _ faultStruct faultHeld]
  have h0 := faultFields
  have h1 := faultTypes
  generalize hf : (Tryd.prog.fieldsOf 26).toList = fs
  rw [hf] at h0 h1
  clear hf
  rcases fs with _ | ⟨f0, _ | ⟨f1, _ | ⟨f2, fs⟩⟩⟩
  · simp at h0
  · simp at h0
  · simp only [List.map_cons, List.map_nil, List.cons.injEq, Prod.mk.injEq, and_true] at h0 h1
    obtain ⟨⟨n0, o0⟩, ⟨n1, o1⟩⟩ := h0
    obtain ⟨t0, t1⟩ := h1
    rw [eqF_int w 9998 (by rw [n0]; decide) t0 (by rw [o0]; rfl) (by rw [o0]; rfl) _ rfl,
      eqF_int w 9998 (by rw [n1]; decide) t1 (by rw [o1]; rfl) (by rw [o1]; rfl) _ rfl]
    cases (a == c) <;> cases (b == d) <;> simp [Op.eqFields]
  · simp at h0
theorem run_eql_fault (a b c d : Int) (r : Bool) (h : (a == c && b == d) = r) (w : World) : (binOp .eql 26 (.agg #[.int .i64 a, .int .i64 b]) (.agg #[.int .i64 c, .int .i64 d])).run Tryd.prog w = .ok (.bool r) w := by
  rw [run_eql_struct, eqFault, h]; rfl
theorem guard_fault (op : BinOp) (x y : Operand) (xs ys : Array Value) (w : World) : (eqGuard op 26 x y (.agg xs) (.agg ys)).run Tryd.prog w = .ok () w := run_eqGuard_agg w op _ x y xs ys faultGuard
theorem run_eql_line (l m : Ln) (b : Bool) (h : decide (l = m) = b) (w : World) : (binOp .eql 34 (.agg #[.string ⟨l.sec.toArray⟩, .string ⟨l.key.toArray⟩, .string ⟨l.val.toArray⟩, .int .i64 l.at_]) (.agg #[.string ⟨m.sec.toArray⟩, .string ⟨m.key.toArray⟩, .string ⟨m.val.toArray⟩, .int .i64 m.at_])).run Tryd.prog w = .ok (.bool b) w := by
  rw [run_eql_struct, eqLine, h]; rfl

abbrev showT : Str := [35, 32, 97, 10, 91, 85, 110, 105, 116, 93, 10, 65, 32, 61, 32, 98, 32, 92, 10, 32, 32, 59, 99, 10, 32, 100, 10, 10, 66, 61, 10]
abbrev showL : List Ln := [⟨[85, 110, 105, 116], [65], [98, 32, 32, 32, 100], 3⟩, ⟨[85, 110, 105, 116], [66], [], 7⟩]
theorem show1 : parseS showT = .ok showL := by kernel_rfl
theorem show2 : parseS [91, 85, 110, 105, 116, 93, 10, 65, 61, 49, 10, 66, 10] = .error (9, 3) := by kernel_rfl
theorem show3 : parseS [65, 61, 49] = .error (10, 1) := by kernel_rfl
theorem show4 : printS showL = [91, 85, 110, 105, 116, 93, 10, 65, 61, 98, 32, 32, 32, 100, 10, 66, 61, 10] := by kernel_rfl

set_option maxHeartbeats 2000000 in
theorem shown_any (w : World) (hm : MaxAt w) :
    Calls Tryd.prog 10 #[] w fun e w' => e = .returned (.bool true) ∧ Below w.heap.size w w' := by
  go_enter Tryd.func10, Tryd.ntmps10
  go_wp2_with fail
  refine (parse_all _ _ hm (by decide) _ show1).mono ?_
  rintro e w1 ⟨hb1, v, rfl, hv⟩
  obtain ⟨oa, cap, rfl⟩ := ownsRow_form hv
  have HR1 := Lib.hid (LnRow.of_own hv)
  have hm1 := hm.below hb1
  have HB1 := Lib.hid hb1; clear hb1 hv hm
  unfold faultV
  go_wp2_with fail
  have ha1 : Below w1.heap.size w1 (w1.alloc (.cells #[.int .i64 0, .int .i64 0] 26)) := (Below.refl _ _).alloc (Nat.le_refl _) _
  have hp1 := heap_alloc_new w1 (.cells #[.int .i64 0, .int .i64 0] 26)
  generalize w1.alloc (.cells #[.int .i64 0, .int .i64 0] 26) = wa at *
  generalize w1.heap.size = P1 at hp1 ⊢
  have HRa := Lib.hid (HR1.out.below ha1 (Nat.le_refl _)); clear HR1
  have HBa := Lib.hid (HB1.out.trans (ha1.mono HB1.out.size)); clear HB1
  have hma := hm1.below ha1; clear hm1 ha1
  have Hp1 := Lib.hid hp1; clear hp1
  refine (parse_all _ _ hma (by decide) _ show2).mono ?_
  rintro e w2 ⟨hb2, rfl⟩
  have HR2 := Lib.hid (HRa.out.below hb2 (Nat.le_refl _)); clear HRa
  have HB2 := Lib.hid (HBa.out.trans (hb2.mono HBa.out.size)); clear HBa
  have Hp1 := Lib.hid ((Fr.of_below hb2 (fun _ => False)).heap Hp1.out (fun e => e))
  have hm2 := hma.below hb2; clear hma hb2
  unfold faultV
  go_wp2_with fail
  have ha2 : Below w2.heap.size w2 (w2.alloc (.cells #[.int .i64 9, .int .i64 3] 26)) := (Below.refl _ _).alloc (Nat.le_refl _) _
  have hp2 := heap_alloc_new w2 (.cells #[.int .i64 9, .int .i64 3] 26)
  generalize w2.alloc (.cells #[.int .i64 9, .int .i64 3] 26) = wb at *
  generalize w2.heap.size = P2 at hp2 ⊢
  have HRb := Lib.hid (HR2.out.below ha2 (Nat.le_refl _)); clear HR2
  have HBb := Lib.hid (HB2.out.trans (ha2.mono HB2.out.size)); clear HB2
  have Hp1 := Lib.hid ((Fr.of_below ha2 (fun _ => False)).heap Hp1.out (fun e => e))
  have hmb := hm2.below ha2; clear hm2 ha2
  have Hp2 := Lib.hid hp2; clear hp2
  refine (parse_all _ _ hmb (by decide) _ show3).mono ?_
  rintro e w3 ⟨hb3, rfl⟩
  have HR3 := Lib.hid (HRb.out.below hb3 (Nat.le_refl _)); clear HRb
  have HB3 := Lib.hid (HBb.out.trans (hb3.mono HBb.out.size)); clear HBb
  have hp1 := (Fr.of_below hb3 (fun _ => False)).heap Hp1.out (fun e => e)
  have hp2 := (Fr.of_below hb3 (fun _ => False)).heap Hp2.out (fun e => e)
  clear hmb hb3 Hp1 Hp2
  obtain ⟨b, o, rfl, c0, c1, c2, c3⟩ := HR3.out 0 (by decide)
  obtain ⟨b', o', e', d0, d1, d2, d3⟩ := HR3.out 1 (by decide)
  injection e' with e'; injection e' with e1 e2; subst e1; subst e2
  simp only [Nat.zero_mul, Nat.one_mul, Nat.add_zero, List.getElem_cons_zero, List.getElem_cons_succ] at c0 c1 c2 c3 d0 d1 d2 d3
  have r1 := run_eql_fault 0 0 0 0 true (by decide)
  have r2 := run_eql_fault 9 3 9 3 true (by decide)
  have r3 := run_eql_fault 10 1 10 1 true (by decide)
  have q1 := run_eql_line ⟨[85, 110, 105, 116], [65], [98, 32, 32, 32, 100], 3⟩ ⟨[85, 110, 105, 116], [65], [98, 32, 32, 32, 100], 3⟩ true (by decide)
  have q2 := run_eql_line ⟨[85, 110, 105, 116], [66], [], 7⟩ ⟨[85, 110, 105, 116], [66], [], 7⟩ true (by decide)
  simp only at q1 q2
  have g1 := guard_fault
  have g2 := guard_line
  have hbl : b < w3.heap.size := World.block_lt_of_cell? w3 _ c0
  have hl1 := lt_heap hp1
  have hl2 := lt_heap hp2
  have f10 : w3.cell? ⟨P1, 0, none⟩ = some (.int .i64 0) := by rw [(rd hp1).1]; rfl
  have f11 : w3.cell? ⟨P1, 1, none⟩ = some (.int .i64 0) := by rw [(rd hp1).1]; rfl
  have f20 : w3.cell? ⟨P2, 0, none⟩ = some (.int .i64 9) := by rw [(rd hp2).1]; rfl
  have f21 : w3.cell? ⟨P2, 1, none⟩ = some (.int .i64 3) := by rw [(rd hp2).1]; rfl
  clear hp1 hp2
  have ha3 : Below w3.heap.size w3 (w3.alloc (.cells #[.int .i64 10, .int .i64 1] 26)) := (Below.refl _ _).alloc (Nat.le_refl _) _
  have HP := Lib.hid (print_any (some ⟨b, o, none⟩) cap showL _ (HR3.out.below ha3 (Nat.le_refl _)) (by decide) (by
    intro x hx
    simp at hx
    rcases hx with rfl | rfl <;> exact ⟨by decide, by decide, by decide⟩) (by decide) _ show4)
  have HB4 := Lib.hid (HB3.out.trans (ha3.mono HB3.out.size)); clear HB3 ha3
  unfold faultV
  go_wp2_with fail
  refine HP.out.mono ?_
  rintro e w5 ⟨rfl, hb5⟩
  have HB5 := Lib.hid (HB4.out.trans (hb5.mono HB4.out.size)); clear hb5 HB4
  go_wp2_with fail
  go_ret
  exact ⟨rfl, HB5.out⟩
end Go.Proofs.YtbgjpglnikbflaaDoor
