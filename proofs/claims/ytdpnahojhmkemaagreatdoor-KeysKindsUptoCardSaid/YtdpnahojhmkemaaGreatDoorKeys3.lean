/-
  Package slices: Grow of a nil row of keys, Concat of rows of keys.
-/
import Derived.Test.YtdpnahojhmkemaaGreatDoorKeys2
import Derived.Lib.AppendZerosOnto
import Derived.Lib.SliceRun
namespace Go.Proofs.YtdpnahojhmkemaaGreatDoor
open Go Go.RowKit
set_option linter.unusedVariables false
set_option maxRecDepth 100000

theorem wpList_append_run2 {P : Program} {w : World} {ops : Array Oper} {rest : List Oper} {o : Oper} {a : Act} {Q : Exit → Act → World → Prop} (hw : Region.wanted o (yielded ops a.tmps) = true) (s x : Operand) (t t2 : TypeId)
    (ho : o.op = .call { callee := .builtin .append, args := #[s, x], argTypes := #[t, t2] }) {v xv v' : Value} {w' : World} (hr : (Builtin.append_ #[t, t2] o.type #[v, xv]).run P w = .ok v' w') (hs : a.eval s = v) (hx : a.eval x = xv)
    (h : wpList P ops Q rest (a.put o.dst v') w') : wpList P ops Q (o :: rest) a w := by
  refine wpList_step fun K hK => ?_
  rw [if_pos hw]
  unfold Oper.wp execOp
  simp only [ho, resolve, invoke, builtin, Sem.run_bind, Sem.run_pure, Result.andThen_ok, List.map_toArray, List.map_cons, List.map_nil, hs, hx, hr]
  exact hK _ _ h

def OwnOutK (w : World) (l : List KeyV) (e : Ending) (w' : World) : Prop := ∃ v, e = .returned v ∧ w'.ownsRow w.heap.size 28 6 v l.length (flatL encK l) ∧ Below w.heap.size w w'

set_option maxHeartbeats 1000000 in
theorem growK_any (n : Nat) (w : World) (hn : n < 1073741824) : Calls Tryz.prog 42 #[.slice none 0 0, .int .i64 n] w fun e w' => ∃ v, e = .returned v ∧ w'.ownsRow w.heap.size 28 6 v 0 [] ∧ Below w.heap.size w w' := by
  obtain ⟨i0, hi0, hz0, hz1, hz2⟩ := info_parts infoKey
  by_cases h0 : n = 0
  · subst h0
    go_enter Tryz.func42, Tryz.ntmps42
    go_wp2_with fail
    go_ret
    exact ⟨_, rfl, World.ownsRow_nil _ _ _ _, Below.refl _ _⟩
  · have hrun : ∀ ty, (Builtin.append_ #[23, 3] ty #[.slice none 0 0, .int .i64 (n : Int)]).run Tryz.prog w = .ok (.slice (some ⟨w.heap.size, 0, none⟩) (0 + n) (grownCap w (0 + n) 0 28)) (w.drew.alloc (.cells (#[] ++ Builtin.zeroCells (Value.agg #[.string ⟨#[]⟩, .string ⟨#[]⟩, .int .i64 0, .bool false, .int .i64 0, .slice none 0 0]).cells n ++ Builtin.zeroCells (Value.agg #[.string ⟨#[]⟩, .string ⟨#[]⟩, .int .i64 0, .bool false, .int .i64 0, .slice none 0 0]).cells (grownCap w (0 + n) 0 28 - (0 + n))) 28)) := fun ty =>
      Lib.run_append_grow_zeros w 23 3 ty 28 i0 (.agg #[.string ⟨#[]⟩, .string ⟨#[]⟩, .int .i64 0, .bool false, .int .i64 0, .slice none 0 0]) .i64 .i64 Tryz.underlying23 Tryz.underlying3 hi0 hz0 none 0 0 [] (run_firstCells_none w.drew i0.size 0 0 0) n (by omega) (by omega) (by omega) (by omega) (by rw [hz2]; omega) (growslice_fits (by omega) (by rw [hz2]; omega))
    have hG := grownCap_ge w (0 + n) 0 28
    have hM := grownCap_le_maxLen w (0 + n) 0 28 (by unfold maxLen; omega)
    generalize grownCap w (0 + n) 0 28 = G at *
    have HR := Lib.hid hrun
    have hown : (w.drew.alloc (.cells (#[] ++ Builtin.zeroCells (Value.agg #[.string ⟨#[]⟩, .string ⟨#[]⟩, .int .i64 0, .bool false, .int .i64 0, .slice none 0 0]).cells n ++ Builtin.zeroCells (Value.agg #[.string ⟨#[]⟩, .string ⟨#[]⟩, .int .i64 0, .bool false, .int .i64 0, .slice none 0 0]).cells (G - (0 + n))) 28)).ownsRow w.heap.size 28 6 (.slice (some ⟨w.heap.size, 0, none⟩) 0 G) 0 [] := by
      refine ⟨rfl, .inr ⟨w.heap.size, G, _, rfl, Nat.le_refl _, heap_alloc_new w.drew _, Nat.zero_le _, hM, ?_, by simp⟩⟩
      simp [Builtin.zeroCells, Value.cells]
      omega
    have HO := Lib.hid hown
    have HB := Lib.hid ((show Below w.heap.size w w.drew from below_dn ⟨1, rfl⟩).alloc (Nat.le_refl _) (.cells (#[] ++ Builtin.zeroCells (Value.agg #[.string ⟨#[]⟩, .string ⟨#[]⟩, .int .i64 0, .bool false, .int .i64 0, .slice none 0 0]).cells n ++ Builtin.zeroCells (Value.agg #[.string ⟨#[]⟩, .string ⟨#[]⟩, .int .i64 0, .bool false, .int .i64 0, .slice none 0 0]).cells (G - (0 + n))) 28))
    clear hrun hown
    have h1 : ¬ ((n : Int) < 0) := by omega
    have h2 : wrap64 ((n : Int) - 0) = (n : Int) := by unfold wrap64; omega
    have h2b : wrap64 (n : Int) = (n : Int) := by unfold wrap64; omega
    have h4 : (n : Int) > 0 := by omega
    have h5 : (0 : Int) < n := h4
    have hM2 : (G : Int) ≤ 9223372036854775807 := by unfold maxLen at hM; omega
    generalize hw1 : w.drew.alloc _ = w1 at *
    clear hw1
    go_enter Tryz.func42, Tryz.ntmps42
    go_wp2_with (at_builtin; refine wpList_append_run2 rfl _ _ 23 3 rfl (HR.out _) rfl rfl ?_)
    go_ret
    exact ⟨_, rfl, HO.out, HB.out⟩

/-- The rows that Concat joins. -/
structure RowsK (w : World) (G : Nat) (ls : List (List KeyV)) : Prop where
  lt : G < w.heap.size
  row : ∀ k (h : k < ls.length), ∃ oa cap, w.cell? ⟨G, k, none⟩ = some (.slice oa ls[k].length cap) ∧ RowRd encK 6 w oa ls[k]
theorem RowsK.below {w w' : World} {G : Nat} {ls : List (List KeyV)} (h : RowsK w G ls) (hb : Below w.heap.size w w') : RowsK w' G ls :=
  ⟨Nat.lt_of_lt_of_le h.lt hb.size, fun k hk => by obtain ⟨oa, cap, h1, h2⟩ := h.row k hk; exact ⟨oa, cap, by rw [hb.cell h.lt]; exact h1, h2.below hb⟩⟩
theorem flat_take_succ (ls : List (List KeyV)) (k : Nat) (h : k < ls.length) : (ls.take (k + 1)).flatten = (ls.take k).flatten ++ ls[k] := by
  rw [List.take_succ_eq_append_getElem h, List.flatten_append]; simp
theorem flat_take_le (ls : List (List KeyV)) (k : Nat) : (ls.take k).flatten.length ≤ ls.flatten.length := by
  have : ls.flatten = (ls.take k).flatten ++ (ls.drop k).flatten := by rw [← List.flatten_append, List.take_append_drop]
  rw [this, List.length_append]; omega

set_option maxHeartbeats 1000000 in
theorem concatK_any (G cap0 : Nat) (ls : List (List KeyV)) (w : World) (hr : RowsK w G ls) (hl : ls.length < 1000) (hs : ls.flatten.length < 1073741824) :
    Calls Tryz.prog 23 #[.slice (some ⟨G, 0, none⟩) ls.length cap0] w fun e w' => OwnOutK w ls.flatten e w' := by
  obtain ⟨i0, hi0, hz0, hz1, hz2⟩ := info_parts infoKey
  have HR := Lib.hid hr; clear hr
  have HS := Lib.hid hs
  go_enter Tryz.func23, Tryz.ntmps23
  go_wp2_with fail
  go_loopg [3, 11] (ls.length + 1) (fun f n i wr => ∃ k : Nat, k ≤ ls.length ∧ i = .int .i64 k ∧ n = .int .i64 ((ls.take k).flatten.length : Nat) ∧ ls.length - k < f ∧ w = wr)
  case atStart => exact ⟨0, by omega, rfl, by simp, by omega, rfl⟩
  case round =>
    obtain ⟨k, hk, rfl, rfl, hfu, rfl⟩ := hrel
    by_cases hlt : k < ls.length
    · obtain ⟨oa, cap, hc, -⟩ := HR.out.row k hlt
      have hN := flat_take_succ ls k hlt
      have hle := flat_take_le ls (k + 1)
      have hlen : (ls.take (k + 1)).flatten.length = (ls.take k).flatten.length + ls[k].length := by rw [hN, List.length_append]
      rw [hlen] at hle
      have HL := Lib.hid hlen
      clear hN hlen
      generalize (ls.take k).flatten.length = a at *
      generalize ls[k].length = b at *
      have i5 : (k : Int) < (ls.length : Int) := by omega
      have h2 : wrap64 ((a : Int) + (b : Int)) = (a : Int) + (b : Int) := by unfold wrap64; omega
      have h3 : ¬ ((a : Int) + (b : Int) < 0) := by omega
      go_wp2_with fail
      go_roundg (gk - 1)
      case measure => omega
      case rel => exact ⟨k + 1, by omega, by go_num, by rw [HL.out]; go_num, by omega, rfl⟩
    · have hke : k = ls.length := by omega
      subst hke
      rw [List.take_length]
      have hge : ¬ ((ls.length : Int) < (ls.length : Int)) := by omega
      have HG := Lib.hid (growK_any ls.flatten.length w hs)
      generalize hFN : ls.flatten.length = N at HG ⊢
      have HFN := Lib.hid hFN; clear hFN
      go_wp2_with fail
      refine HG.out.mono ?_
      rintro e w1 ⟨v0, rfl, ho, hb⟩
      obtain ⟨ao, cap1, rfl⟩ := ownsRow_form ho
      have HO := Lib.hid ho; have HB := Lib.hid hb
      clear ho hb HG hfu hk hlt
      go_wp2_with fail
      go_loopg [6, 27] (ls.length + 1) (fun f v i w2 => ∃ k : Nat, k ≤ ls.length ∧ i = .int .i64 k ∧ ls.length - k < f ∧ Hid (w2.ownsRow w.heap.size 28 6 v (ls.take k).flatten.length (flatL encK (ls.take k).flatten)) ∧ Hid (Below w.heap.size w w2))
      case atStart => exact ⟨0, by omega, rfl, by omega, HO, HB⟩
      case round =>
        obtain ⟨k, hk, rfl, hfu, Hown, Hb⟩ := hrel
        clear HO HB
        obtain ⟨oa', cap', rfl⟩ := ownsRow_form Hown.out
        by_cases hlt : k < ls.length
        · obtain ⟨oa, cap, hc, hrow⟩ := (HR.out.below Hb.out).row k hlt
          have hN := flat_take_succ ls k hlt
          have hle := Nat.lt_of_le_of_lt (flat_take_le ls (k + 1)) HS.out
          rw [hN, List.length_append] at hle
          have HN := Lib.hid hN
          have i5 : (k : Int) < (ls.length : Int) := by omega
          obtain ⟨v', w3, hrun, hown, hgrow⟩ := append_rows w.heap.size 23 23 28 i0 (.agg #[.string ⟨#[]⟩, .string ⟨#[]⟩, .int .i64 0, .bool false, .int .i64 0, .slice none 0 0]) 6 80 Tryz.underlying23 hi0 hz0 hz1 hz2 rfl (by decide) _ _ _ Hown.out oa ls[k].length cap (flatL encK ls[k]) (by rw [flatL_length (enc := encK) (k := 6) (fun _ => rfl)]) (RowRd.flat (enc := encK) (k := 6) (fun _ => rfl) (by omega) hrow) (flatL_oneCell encK_one _) (by unfold maxLen; omega) (by omega) Hb.out.size
          have HRUN := Lib.hid hrun
          have HB3 := Lib.hid (Hb.out.grown hgrow Hb.out.size (fun g hg => (Hown.out.lt g hg).1))
          have HO3 := Lib.hid (show w3.ownsRow w.heap.size 28 6 v' (ls.take (k + 1)).flatten.length (flatL encK (ls.take (k + 1)).flatten) by rw [hN, List.length_append, flatL_append]; exact hown)
          clear hrun hown hgrow hN hrow
          go_wp2_with (at_builtin; refine wpList_append_run rfl _ _ 23 rfl HRUN.out rfl rfl ?_)
          obtain ⟨ao, cap2, rfl⟩ := ownsRow_form HO3.out
          go_roundg (gk - 1)
          case measure => omega
          case rel => exact ⟨k + 1, by omega, by go_num, by omega, HO3, HB3⟩
        · have hke : k = ls.length := by omega
          subst hke
          have hge : ¬ ((ls.length : Int) < (ls.length : Int)) := by omega
          have HO3 := Lib.hid (by have := Hown.out; rw [List.take_length] at this; exact this)
          clear Hown
          rw [List.take_length]
          generalize hFL : ls.flatten = FL at HO3 ⊢
          have HFL := Lib.hid hFL; clear hFL
          go_wp2_with fail
          go_ret
          exact ⟨_, rfl, by rw [HFL.out]; exact HO3.out, Hb.out⟩
end Go.Proofs.YtdpnahojhmkemaaGreatDoor
