/-
  strings.Builder, lying anywhere in a block of cells: its methods' contracts.
-/
import Derived.Test.YtdpnahojhmkemaaGreatDoorProg
import Derived.Test.YtdpnahojhmkemaaGreatDoorBase
import Derived.Deep.QuietTactic
import Derived.BigQuiet
import Derived.BigRegion
import Derived.Lib.Hide
namespace Go.Proofs.YtdpnahojhmkemaaGreatDoor
open Go Go.RowKit
set_option linter.unusedVariables false
set_option maxRecDepth 100000

theorem infoByte : (Tryz.prog.info? 5).map (fun i => (i.zero, i.size, i.bytes)) = some (some (.int .u8 0), 1, 1) := by kernel_rfl
theorem byteCells1 : Tryz.prog.cellsOf 5 = 1 := by kernel_rfl
theorem sizeBuilder : (Tryz.prog.info? 151).map (fun i => i.size) = some 2 := by kernel_rfl

theorem quiet_same {P : Program} {f : FuncId} {args : Array Value} {w : World} {n : Nat} {v : Value}
    (h : Calls P f args (w.drewN n) fun e w' => e = .returned v ∧ w.drewN n = w') : Calls P f args (w.drewN n) fun e w'' => e = .returned v ∧ ∃ k, w'' = w.drewN k :=
  h.mono fun _ _ ⟨he, hw⟩ => ⟨he, n, hw.symm⟩

/-- At offset o of block R (a row of n cells, of type T) there may stand a strings.Builder. -/
def CanB (T n o : Nat) : Prop := liesAt Tryz.prog Tryz.prog.depth T (n / Tryz.prog.cellsOf T) o 151 1 = true ∧ o + 1 < n

set_option maxHeartbeats 400000 in
theorem copyCheck_used (R o : Nat) (w : World) (h0 : w.cell? ⟨R, o, none⟩ = some (.pointer (some ⟨R, o, none⟩))) :
    Calls Tryz.prog 179 #[.pointer (some ⟨R, o, none⟩)] w fun e w' => e = .returned (.tuple #[]) ∧ w = w' := by
  obtain ⟨j, hj, _⟩ := Option.map_eq_some_iff.1 sizeBuilder
  go_enter Tryz.func179, Tryz.ntmps179
  go_wp2
  rw [Lib.run_neq_ptr_same w _ Tryz.underlying149 hj]
  go_wp2
  go_end0
  exact ⟨rfl, rfl⟩

set_option maxHeartbeats 400000 in
theorem copyCheck_fresh (R o : Nat) (T n : Nat) (w : World) (h0 : w.cell? ⟨R, o, none⟩ = some (.pointer none)) (hsh : w.shape? R = some (T, n)) (hT : CanB T n o) (hfz : w.frozen? ⟨R, o, none⟩ = false) :
    Calls Tryz.prog 179 #[.pointer (some ⟨R, o, none⟩)] w fun e w' => e = .returned (.tuple #[]) ∧ w' = w.setCell ⟨R, o, none⟩ (.pointer (some ⟨R, o, none⟩)) := by
  obtain ⟨j, hj, hjs⟩ := Option.map_eq_some_iff.1 sizeBuilder
  obtain ⟨hl, ho⟩ := hT
  go_enter Tryz.func179, Tryz.ntmps179
  go_wp2
  rw [Lib.run_to_unsafe w ⟨R, o, none⟩ Tryz.underlying149 Tryz.underlying203 hj (by rw [hjs]; decide) hsh (by show o < n; omega)]
  simp only [Result.andThen]
  rw [Oper.upon_value]
  go_wp2
  rw [run_callFunc_extern Tryz.func184 (by kernel_rfl) (by kernel_rfl) (by kernel_rfl) (e := Extern.AbiNoEscape.same) (by kernel_rfl)]
  rw [Lib.run_noEscape]
  simp only [Result.andThen]
  rw [Oper.upon_value]
  go_wp2
  rw [Lib.run_from_unsafe w ⟨R, o, none⟩ Tryz.underlying203 Tryz.underlying149 hj hsh hl]
  simp only [Result.andThen]
  rw [Oper.upon_value]
  go_wp2
  go_end0
  exact ⟨rfl, rfl⟩

/-- The builder at offset o of block R: its two cells. -/
def selfP (R o : Nat) : Value := .pointer (some ⟨R, o, none⟩)

theorem copyCheck_any (R o : Nat) (cs : Array Value) (T : Nat) (w : World) (hR : w.heap[R]? = some (.cells cs T (0, 0))) (hT : CanB T cs.size o)
    (p : Value) (hp : cs[o]? = some p) (hp' : p = .pointer none ∨ p = selfP R o) :
    Calls Tryz.prog 179 #[.pointer (some ⟨R, o, none⟩)] w fun e w' => e = .returned (.tuple #[]) ∧
      w'.heap[R]? = some (.cells (cs.setIfInBounds o (selfP R o)) T (0, 0)) ∧ Fr (· = R) w w' := by
  obtain ⟨hc, hf, hs, hlt⟩ := rd hR
  rcases hp' with rfl | rfl
  · refine (copyCheck_fresh R o T cs.size w (by rw [hc]; exact hp) hs hT (hf o)).mono ?_
    rintro e w' ⟨rfl, rfl⟩
    exact ⟨rfl, heap_setCell hR _ _, Fr.setCell (M := (· = R)) (Fr.refl _ _) (p := ⟨R, o, none⟩) (fun _ => rfl) _⟩
  · refine (copyCheck_used R o w (by rw [hc]; exact hp)).mono ?_
    rintro e w' ⟨rfl, rfl⟩
    refine ⟨rfl, ?_, Fr.refl _ _⟩
    rw [hR]
    congr 2
    obtain ⟨h1, h2⟩ := Array.getElem?_eq_some_iff.1 hp
    apply Array.ext_getElem?
    intro i
    rw [Array.getElem?_setIfInBounds]
    split
    · subst_vars; simp [h1, h2]
    · rfl

/-- What a write leaves of the block in which the builder stands. -/
def Wrote (R o B : Nat) (T : Nat) (cs : Array Value) (l : List UInt8) (w w' : World) : Prop :=
  ∃ v', w'.heap[R]? = some (.cells ((cs.setIfInBounds o (selfP R o)).setIfInBounds (o + 1) v') T (0, 0)) ∧ Buf B 5 l v' w' ∧ FrB R B 5 w w'

theorem wrote_close {R o B T : Nat} {cs : Array Value} {v v' : Value} {l m : List UInt8} {w w1 w1' w2 : World} (hTe : T ≠ 5) (hf1 : Fr (· = R) w w1) (hl1 : Buf B 5 l v w1)
    (hal : FrB R B 5 w1 w1') (hrow : ∀ g, v.ownBlock = some g → B ≤ g ∧ RowOf 5 w1' g) (hg : w1'.grownBy w2 v.ownBlock) (hR2 : w2.heap[R]? = some (.cells (cs.setIfInBounds o (selfP R o)) T (0, 0)))
    (hb : Buf B 5 m v' w2) : Wrote R o B T cs m w (w2.setCell ⟨R, o + 1, none⟩ v') := by
  refine ⟨v', heap_setCell hR2 _ _, hb.setCell (hb.ne hR2 hTe) _, ?_⟩
  have h1 : FrB R B 5 w w1 := hf1.mono (fun i _ h => .inl h)
  exact ((h1.trans hal).grown hg hrow).setCell _ _

set_option maxHeartbeats 1000000 in
theorem string_any (R o B : Nat) (cs : Array Value) (T : Nat) (w : World) (hR : w.heap[R]? = some (.cells cs T (0, 0)))
    (v : Value) (hv : cs[o + 1]? = some v) (l : List UInt8) (hl : Buf B 5 l v w) (hTe : T ≠ 5) :
    Calls Tryz.prog 149 #[.pointer (some ⟨R, o, none⟩)] w fun e w' => e = .returned (.string ⟨l.toArray⟩) ∧ w'.heap[R]? = some (.cells cs T (0, 0)) ∧ Buf B 5 l v w' ∧ FrB R B 5 w w' := by
  have c1 : w.cell? ⟨R, o + 1, none⟩ = some v := by rw [(rd hR).1]; exact hv
  rcases hl with ⟨rfl, rfl⟩ | ⟨h0, hown⟩
  · have hUS := fun w => Lib.run_unsafeString_none (P := Tryz.prog) w 183 3 9 none
    have c2 : w.drew.cell? ⟨R, o + 1, none⟩ = some (.slice none 0 0) := c1
    have hSD : (Builtin.unsafeSliceData_ #[124] 183 #[.slice none 0 0]).run Tryz.prog w.drew = .ok (.pointer none) w.drew := rfl
    have HR := Lib.hid hR; clear hR
    go_enter Tryz.func149, Tryz.ntmps149
    go_wp2
    go_region
    all_goals (go_wp2; go_ret; exact ⟨rfl, HR.out, .inl ⟨rfl, rfl⟩, (FrB.refl _ _ _ _).drew⟩)
  · have hl0 : l.length ≠ 0 := by simpa using h0
    obtain ⟨g, cap, cur, fz, rfl, hbg, hg, hfz, hnc, hcm, hcs, htake⟩ : ∃ g cap cur fz, v = .slice (some ⟨g, 0, none⟩) l.length cap ∧ B ≤ g ∧ w.heap[g]? = some (.cells cur 5 fz) ∧ fz.2 ≤ l.length * 1 ∧ l.length ≤ cap ∧ cap ≤ maxLen ∧ cur.size = cap * 1 ∧ cur.toList.take (l.length * 1) = Lib.byteCells l := by
      rcases hown.2 with ⟨_, hz⟩ | ⟨g, cap, cur, fz, hv, r⟩
      · exact absurd hz hl0
      · exact ⟨g, cap, cur, fz, hv, r⟩
    have hgR : g ≠ R := fun e => by subst e; rw [hR] at hg; simp at hg; exact hTe hg.2.1
    have hSD : (Builtin.unsafeSliceData_ #[124] 183 #[.slice (some ⟨g, 0, none⟩) l.length cap]).run Tryz.prog w.drew = .ok (.pointer (some ⟨g, 0, none⟩)) w.drew :=
      Lib.run_unsafeSliceData_row _ _ _ _ _ _ (by omega)
    have hUS : (Builtin.unsafeString_ #[183, 3] 9 #[.pointer (some ⟨g, 0, none⟩), .int .i64 l.length]).run Tryz.prog w.drew = .ok (.string ⟨l.toArray⟩) (w.drew.freeze ⟨g, 0, none⟩ l.length) := by
      refine Lib.run_unsafeString_row w.drew 183 3 9 5 Tryz.underlying183 byteCells1 g cur.size (by have hg' : w.drew.heap[g]? = some (.cells cur 5 fz) := hg; simp [World.shape?, hg']) l h0 (by omega) (by unfold maxLen at hcm; omega) ?_
      intro j x hx
      exact hown.cells (g := g) rfl j (.int .u8 x.toNat) (by simp [Lib.byteCells, hx])
    have c2 : w.drew.cell? ⟨R, o + 1, none⟩ = some (.slice (some ⟨g, 0, none⟩) l.length cap) := c1
    have hkeep : Buf B 5 l (.slice (some ⟨g, 0, none⟩) l.length cap) (w.drew.freeze ⟨g, 0, none⟩ l.length) := by
      refine .inr ⟨h0, hown.1, .inr ⟨g, cap, cur, ?_⟩⟩
      have hn0 : l.length ≠ 0 := hl0
      obtain ⟨lo, hi⟩ := fz
      refine ⟨if lo == hi then (0, l.length) else (min lo 0, max hi l.length), rfl, hbg, ?_, ?_, hnc, hcm, hcs, htake⟩
      · unfold World.freeze
        rw [if_neg hn0]
        have : w.drew.heap[g]? = some (.cells cur 5 (lo, hi)) := hg
        simp [Array.getElem?_modify, this]
      · simp only at hfz
        split <;> simp <;> omega
    have hfr : FrB R B 5 w (w.drew.freeze ⟨g, 0, none⟩ l.length) := Fr.freeze (Fr.drew (Fr.refl _ _)) (fun _ => .inr ⟨hbg, cur, fz, hg⟩) _
    have hR2 : (w.drew.freeze ⟨g, 0, none⟩ l.length).heap[R]? = some (.cells cs T (0, 0)) := by
      unfold World.freeze
      split
      · exact hR
      · have : w.drew.heap[R]? = some (.cells cs T (0, 0)) := hR
        simp only [Array.getElem?_modify]
        rw [if_neg hgR]; exact this
    have HH := Lib.hid (And.intro hR2 (And.intro hkeep hfr))
    clear hR2 hkeep hfr hg hR hown htake hcs hbg hfz
    go_enter Tryz.func149, Tryz.ntmps149
    go_wp2
    go_region
    all_goals (go_wp2; go_ret; exact ⟨rfl, HH.out⟩)

/-- A builder of its own block. -/
def Bld (R B : Nat) (l : List UInt8) (w : World) : Prop :=
  ∃ p v, w.heap[R]? = some (.cells #[p, v] 151 (0, 0)) ∧ (p = .pointer none ∨ p = selfP R 0) ∧ Buf B 5 l v w ∧ R < B ∧ B ≤ w.heap.size
theorem canB_builder : CanB 151 2 0 := ⟨by kernel_rfl, by decide⟩
theorem Bld.lt {R B : Nat} {l : List UInt8} {w : World} (h : Bld R B l w) : R < w.heap.size := by obtain ⟨_, _, h, _⟩ := h; exact lt_heap h
theorem Bld.new (w : World) : Bld w.heap.size (w.heap.size + 1) [] (w.alloc (.cells #[.pointer none, .slice none 0 0] 151)) :=
  ⟨.pointer none, .slice none 0 0, heap_alloc_new w _, .inl rfl, .inl ⟨rfl, rfl⟩, by omega, by simp⟩
theorem Bld.drewN {R B : Nat} {l : List UInt8} {w : World} (h : Bld R B l w) (n : Nat) : Bld R B l (w.drewN n) := h
theorem Bld.drew {R B : Nat} {l : List UInt8} {w : World} (h : Bld R B l w) : Bld R B l w.drew := h
theorem Bld.frame {R B : Nat} {l : List UInt8} {w w' : World} {M : Nat → Prop} (h : Bld R B l w) (hf : Fr M w w') (hR : ¬ M R) (hB : ∀ i, B ≤ i → RowOf 5 w i → ¬ M i) : Bld R B l w' := by
  obtain ⟨p, v, h1, h2, h3, h4, h5⟩ := h
  exact ⟨p, v, hf.heap h1 hR, h2, h3.kept hf (fun i hi => hB i (h3.row i hi).1 (h3.row i hi).2), h4, by have := hf.size; omega⟩
theorem Bld.below {R B : Nat} {l : List UInt8} {w w' : World} (h : Bld R B l w) (hf : Below w.heap.size w w') : Bld R B l w' :=
  h.frame (M := fun _ => False) (Fr.of_below hf _) (fun e => e) (fun _ _ _ e => e)

theorem Bld.string {R B : Nat} {l : List UInt8} {w : World} (h : Bld R B l w) :
    Calls Tryz.prog 149 #[.pointer (some ⟨R, 0, none⟩)] w fun e w' => e = .returned (.string ⟨l.toArray⟩) ∧ Bld R B l w' ∧ FrB R B 5 w w' := by
  obtain ⟨p, v, h1, h2, h3, h4, h5⟩ := h
  refine (string_any R 0 B _ _ w h1 v rfl l h3 (by decide)).mono ?_
  rintro e w1 ⟨rfl, hR1, hb1, hf1⟩
  exact ⟨rfl, ⟨p, v, hR1, h2, hb1, h4, by have := hf1.size; omega⟩, hf1⟩
end Go.Proofs.YtdpnahojhmkemaaGreatDoor
