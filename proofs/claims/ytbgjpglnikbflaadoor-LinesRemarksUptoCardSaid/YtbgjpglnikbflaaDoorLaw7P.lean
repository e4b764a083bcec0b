/-
  matinslaw7: LinesParse's walk.
-/
import Derived.Test.YtbgjpglnikbflaaDoorLaw7B
namespace Go.Proofs.YtbgjpglnikbflaaDoor
open Go Go.RowKit
set_option linter.unusedVariables false
set_option maxRecDepth 100000

theorem read_len : ∀ (ws : List (Str × Nat)) (sec : Str) (out l : List Ln), readS ws sec out = .ok l → l.length ≤ out.length + ws.length
  | [], _, out, l, h => by
    simp only [readS] at h
    injection h with h; subst h; simp
  | (s, n) :: r, sec, out, l, h => by
    simp only [readS] at h
    split at h
    · cases h
    · have := read_len r sec out l h; simp; omega
    · have := read_len r _ out l h; simp; omega
    · have := read_len r sec _ l h; simp at this ⊢; omega
theorem parse_len {t : Str} {l : List Ln} (h : parseS t = .ok l) : l.length ≤ 20001 := by
  unfold parseS at h
  split at h
  · rename_i ht
    have h1 := read_len _ _ _ _ h
    have h2 := wholesS_len ((rowsS t).length + 1) (rowsS t) 0
    have h3 := rowsS_len t
    simp at h1
    omega
  · cases h

theorem heap_below {w w' : World} {b : Nat} {o : Obj} (h : w.heap[b]? = some o) (hb : Below w.heap.size w w') : w'.heap[b]? = some o := (Fr.of_below hb (fun _ => False)).heap h (fun e => e)
theorem fault_cells {w : World} {P : Nat} {c n : Int} {T : TypeId} (h : w.heap[P]? = some (.cells #[.int .i64 c, .int .i64 n] T (0, 0))) : w.cell? ⟨P, 0, none⟩ = some (.int .i64 c) ∧ w.cell? ⟨P, 1, none⟩ = some (.int .i64 n) ∧ P < w.heap.size :=
  ⟨by rw [(rd h).1]; rfl, by rw [(rd h).1]; rfl, lt_heap h⟩

set_option maxHeartbeats 2000000 in
theorem parse_walk (s : ByteArray) (w : World) (hs : s.size ≤ 1048576) (hm : MaxAt w) :
    Calls Tryd.prog 3 #[.string s] w fun e w' => e = .returned (.bool true) ∧ Below w.heap.size w w' := by
  have g1 := guard_fault
  cases hres : parseS s.data.toList with
  | error x =>
    obtain ⟨c, n⟩ := x
    have Hres := Lib.hid hres; clear hres
    have r1 := run_eql_fault c n c n true (by simp)
    go_enter Tryd.func3, Tryd.ntmps3
    go_wp2_with fail
    refine (shown_any _ hm).mono ?_
    rintro e w1 ⟨rfl, hb1⟩
    have hm1 := hm.below hb1
    have HB1 := Lib.hid hb1; clear hb1 hm
    go_wp2_with fail
    refine (parse_all _ _ hm1 (by omega) _ Hres.out).mono ?_
    rintro e w2 ⟨hb2, rfl⟩
    have HB2 := Lib.hid (HB1.out.trans (hb2.mono HB1.out.size)); clear hb2 HB1 hm1
    unfold faultV
    go_wp2_with fail
    have ha := (Below.refl w2.heap.size w2).alloc (Nat.le_refl _) (.cells #[.int .i64 c, .int .i64 n] 26)
    have hp := heap_alloc_new w2 (.cells #[.int .i64 c, .int .i64 n] 26)
    generalize w2.alloc (.cells #[.int .i64 c, .int .i64 n] 26) = wa at *
    generalize w2.heap.size = P1 at hp ⊢
    have HBa := Lib.hid (HB2.out.trans (ha.mono HB2.out.size)); clear HB2 ha
    refine (parseR_all _ _ (by omega) _ Hres.out).mono ?_
    rintro e w3 ⟨hb3, rfl⟩
    have hp := heap_below hp hb3
    have HB3 := Lib.hid (HBa.out.trans (hb3.mono HBa.out.size)); clear hb3 HBa
    unfold faultV
    go_wp2_with fail
    have ha3 := (Below.refl w3.heap.size w3).alloc (Nat.le_refl _) (.cells #[.int .i64 c, .int .i64 n] 26)
    have hp3 := heap_alloc_new w3 (.cells #[.int .i64 c, .int .i64 n] 26)
    generalize w3.alloc (.cells #[.int .i64 c, .int .i64 n] 26) = wb at *
    generalize w3.heap.size = P3 at hp3 ⊢
    have hp := heap_below hp ha3
    have HB4 := Lib.hid (HB3.out.trans (ha3.mono HB3.out.size)); clear HB3
    refine (sameLines_b none none 0 0 [] _ (LnRow.nil _ _) (LnRow.nil _ _) (by simp)).mono ?_
    clear ha3
    rintro e w5 ⟨rfl, hb5⟩
    obtain ⟨f0, f1, -⟩ := fault_cells (heap_below hp hb5)
    obtain ⟨k0, k1, -⟩ := fault_cells (heap_below hp3 hb5)
    have HB5 := Lib.hid (HB4.out.trans (hb5.mono HB4.out.size)); clear hb5 HB4 hp hp3
    go_wp2_with fail
    go_ret
    exact ⟨rfl, HB5.out⟩
  | ok l =>
    have hll := parse_len hres
    have Hres := Lib.hid hres; clear hres
    have r1 := run_eql_fault 0 0 0 0 true (by decide)
    go_enter Tryd.func3, Tryd.ntmps3
    go_wp2_with fail
    refine (shown_any _ hm).mono ?_
    rintro e w1 ⟨rfl, hb1⟩
    have hm1 := hm.below hb1
    have HB1 := Lib.hid hb1; clear hb1 hm
    go_wp2_with fail
    refine (parse_all _ _ hm1 (by omega) _ Hres.out).mono ?_
    rintro e w2 ⟨hb2, v, rfl, hv⟩
    obtain ⟨oa, cap, rfl⟩ := ownsRow_form hv
    have HR2 := Lib.hid (LnRow.of_own hv)
    have HB2 := Lib.hid (HB1.out.trans (hb2.mono HB1.out.size)); clear hb2 HB1 hm1 hv
    unfold faultV
    go_wp2_with fail
    have ha := (Below.refl w2.heap.size w2).alloc (Nat.le_refl _) (.cells #[.int .i64 0, .int .i64 0] 26)
    have hp := heap_alloc_new w2 (.cells #[.int .i64 0, .int .i64 0] 26)
    have HRa := Lib.hid (HR2.out.below ha (Nat.le_refl _)); clear HR2
    generalize w2.alloc (.cells #[.int .i64 0, .int .i64 0] 26) = wa at *
    generalize w2.heap.size = P1 at hp ⊢
    have HBa := Lib.hid (HB2.out.trans (ha.mono HB2.out.size)); clear HB2 ha
    refine (parseR_all _ _ (by omega) _ Hres.out).mono ?_
    rintro e w3 ⟨hb3, v, rfl, hv⟩
    obtain ⟨oa3, cap3, rfl⟩ := ownsRow_form hv
    have HR3 := Lib.hid (LnRow.of_own hv)
    have HRb := Lib.hid (HRa.out.below hb3 (Nat.le_refl _)); clear HRa hv
    have hp := heap_below hp hb3
    have HB3 := Lib.hid (HBa.out.trans (hb3.mono HBa.out.size)); clear hb3 HBa
    unfold faultV
    go_wp2_with fail
    have ha3 := (Below.refl w3.heap.size w3).alloc (Nat.le_refl _) (.cells #[.int .i64 0, .int .i64 0] 26)
    have hp3 := heap_alloc_new w3 (.cells #[.int .i64 0, .int .i64 0] 26)
    generalize w3.alloc (.cells #[.int .i64 0, .int .i64 0] 26) = wb at *
    generalize w3.heap.size = P3 at hp3 ⊢
    have hp := heap_below hp ha3
    have HB4 := Lib.hid (HB3.out.trans (ha3.mono HB3.out.size)); clear HB3
    refine (sameLines_b oa oa3 cap cap3 l _ (HRb.out.below ha3 (Nat.le_refl _)) (HR3.out.below ha3 (Nat.le_refl _)) (by omega)).mono ?_
    clear ha3
    rintro e w5 ⟨rfl, hb5⟩
    obtain ⟨f0, f1, -⟩ := fault_cells (heap_below hp hb5)
    obtain ⟨k0, k1, -⟩ := fault_cells (heap_below hp3 hb5)
    have HB5 := Lib.hid (HB4.out.trans (hb5.mono HB4.out.size)); clear hb5 HB4 hp hp3
    go_wp2_with fail
    go_ret
    exact ⟨rfl, HB5.out⟩
end Go.Proofs.YtbgjpglnikbflaaDoor
