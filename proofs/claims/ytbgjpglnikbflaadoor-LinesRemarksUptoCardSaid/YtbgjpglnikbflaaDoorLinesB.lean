/-
  Package lines: May's question of each line (ContainsFunc over a slice of lines).
-/
import Derived.Test.YtbgjpglnikbflaaDoorLinesA
import Derived.Test.YtbgjpglnikbflaaDoorLines4
namespace Go.Proofs.YtbgjpglnikbflaaDoor
open Go Go.RowKit
set_option linter.unusedVariables false
set_option maxRecDepth 100000

/-- A slice of lines: the cells of each. -/
def LnRow (w : World) (oa : Option Addr) (l : List Ln) : Prop :=
  ∀ i (h : i < l.length), ∃ b o, oa = some ⟨b, o, none⟩ ∧ w.cell? ⟨b, o + i * 4, none⟩ = some (.string ⟨l[i].sec.toArray⟩) ∧ w.cell? ⟨b, o + i * 4 + 1, none⟩ = some (.string ⟨l[i].key.toArray⟩) ∧
    w.cell? ⟨b, o + i * 4 + 2, none⟩ = some (.string ⟨l[i].val.toArray⟩) ∧ w.cell? ⟨b, o + i * 4 + 3, none⟩ = some (.int .i64 l[i].at_)
theorem LnRow.below {w w' : World} {oa : Option Addr} {l : List Ln} {B : Nat} (h : LnRow w oa l) (hb : Below B w w') (hB : w.heap.size ≤ B) : LnRow w' oa l := by
  intro i hi
  obtain ⟨b, o, e, h0, h1, h2, h3⟩ := h i hi
  have k := fun (j : Nat) (v : Value) (hc : w.cell? ⟨b, j, none⟩ = some v) => ((hb.cell (p := ⟨b, j, none⟩) (Nat.lt_of_lt_of_le (World.block_lt_of_cell? w _ hc) hB)).trans hc)
  exact ⟨b, o, e, k _ _ h0, k _ _ h1, k _ _ h2, k _ _ h3⟩
theorem rd' {w : World} {b : Nat} {cs : Array Value} {T : TypeId} {fz : Nat × Nat} (h : w.heap[b]? = some (.cells cs T fz)) (j : Nat) : w.cell? ⟨b, j, none⟩ = cs[j]? := by simp [World.cell?, h]
theorem LnRow.nil (w : World) (oa : Option Addr) : LnRow w oa [] := fun i hi => absurd hi (by simp)
theorem lnVals_get : ∀ (l : List Ln) (i j : Nat) (h : i < l.length), j < 4 → (lnVals l)[i * 4 + j]? = (lnCells l[i])[j]?
  | [], i, j, h, _ => absurd h (by simp)
  | a :: r, 0, j, h, hj => by
    simp only [lnVals, Nat.zero_mul, Nat.zero_add, List.getElem_cons_zero]
    rw [List.getElem?_append_left (by simp [lnCells]; omega)]
  | a :: r, i + 1, j, h, hj => by
    have := lnVals_get r i j (by simpa using h) hj
    simp only [lnVals, List.getElem_cons_succ]
    rw [List.getElem?_append_right (by simp [lnCells]; omega), ← this]
    congr 1
    simp [lnCells]; omega
/-- An owned row of lines is a slice of lines. -/
theorem LnRow.of_own {w : World} {base : Nat} {l : List Ln} {oa : Option Addr} {cap : Nat} (h : w.ownsRow base 34 4 (.slice oa l.length cap) l.length (lnVals l)) : LnRow w oa l := by
  intro i hi
  rcases h.2 with ⟨_, h0⟩ | ⟨g, cap', cur, hv, hb, hg, hc, hm, hcs, ht⟩
  · omega
  · injection hv with hv _ _
    subst hv
    have key : ∀ j, j < 4 → w.cell? ⟨g, 0 + i * 4 + j, none⟩ = (lnCells l[i])[j]? := by
      intro j hj
      rw [(rd' hg) _, ← lnVals_get l i j hi hj, ← ht, List.getElem?_take_of_lt (by omega)]
      simp
    refine ⟨g, 0, rfl, ?_, ?_, ?_, ?_⟩
    · have := key 0 (by omega); exact this
    · exact key 1 (by omega)
    · exact key 2 (by omega)
    · exact key 3 (by omega)

/-- The text's size stays within what the walk reckons with. -/
structure LnSmall (x : Ln) : Prop where
  sec : x.sec.length ≤ 1000000000
  key : x.key.length ≤ 1000000000
  val : x.val.length ≤ 1000000000

set_option maxHeartbeats 1000000 in
theorem may1_any (x : Ln) (hx : LnSmall x) (w : World) (b : Bool) (hb : mayLn x = b) :
    Calls Tryd.prog 31 #[.agg #[.string ⟨x.sec.toArray⟩, .string ⟨x.key.toArray⟩, .string ⟨x.val.toArray⟩, .int .i64 x.at_]] w fun e w' => e = .returned (.bool (!b)) ∧ Below w.heap.size w w' := by
  have HC := fun w => Lib.hid (may_any ⟨x.sec.toArray⟩ ⟨x.key.toArray⟩ ⟨x.val.toArray⟩ x.at_ w hx.sec hx.key hx.val b hb)
  clear hb
  have hB : Below w.heap.size w (w.alloc (.cells #[.string ⟨x.sec.toArray⟩, .string ⟨x.key.toArray⟩, .string ⟨x.val.toArray⟩, .int .i64 x.at_] 34)) := (Below.refl _ _).alloc (Nat.le_refl _) _
  obtain ⟨bc, -, -, blt⟩ := rd (heap_alloc_new w (.cells #[.string ⟨x.sec.toArray⟩, .string ⟨x.key.toArray⟩, .string ⟨x.val.toArray⟩, .int .i64 x.at_] 34))
  go_enter Tryd.func31, Tryd.ntmps31
  go_wp2_with fail
  refine (HC _).out.mono ?_
  rintro e w2 ⟨rfl, hb2⟩
  have HB := Lib.hid (hB.trans (hb2.mono hB.size))
  clear hb2
  go_wp2_with fail
  go_ret
  exact ⟨rfl, HB.out⟩
end Go.Proofs.YtbgjpglnikbflaaDoor
