/-
  strings.Builder's WriteByte, lying anywhere in a block of cells.
-/
import Derived.Test.YtdpnahojhmkemaaGreatDoorBuilder0
namespace Go.Proofs.YtdpnahojhmkemaaGreatDoor
open Go Go.RowKit
set_option linter.unusedVariables false
set_option maxRecDepth 100000

set_option maxHeartbeats 400000 in
theorem reset_any (R o : Nat) (cs : Array Value) (T : Nat) (w : World) (hR : w.heap[R]? = some (.cells cs T (0, 0))) (ho : o + 1 < cs.size)
    (p v : Value) (hp : cs[o]? = some p) (hv : cs[o + 1]? = some v) :
    Calls Tryz.prog 146 #[.pointer (some ⟨R, o, none⟩)] w fun e w' => e = .returned (.tuple #[]) ∧
      w'.heap[R]? = some (.cells ((cs.setIfInBounds o (.pointer none)).setIfInBounds (o + 1) (.slice none 0 0)) T (0, 0)) ∧ Fr (· = R) w w' := by
  have c0 : w.cell? ⟨R, o, none⟩ = some p := by rw [(rd hR).1]; exact hp
  have c1 : w.cell? ⟨R, o + 1, none⟩ = some v := by rw [(rd hR).1]; exact hv
  have f0 := (rd hR).2.1 o
  have f1 := (rd hR).2.1 (o + 1)
  have HR := Lib.hid hR; clear hR
  go_enter Tryz.func146, Tryz.ntmps146
  go_wp2
  go_end0
  refine ⟨rfl, heap_setCell (heap_setCell HR.out _ _) _ _, Fr.setCell (M := (· = R)) (p := ⟨R, o + 1, none⟩) (Fr.setCell (M := (· = R)) (p := ⟨R, o, none⟩) (Fr.refl _ _) (fun _ => rfl) _) (fun _ => rfl) _⟩

set_option maxHeartbeats 1000000 in
theorem writeByte_any (R o B : Nat) (cs : Array Value) (T : Nat) (w : World) (hR : w.heap[R]? = some (.cells cs T (0, 0))) (hT : CanB T cs.size o)
    (p v : Value) (hp : cs[o]? = some p) (hp' : p = .pointer none ∨ p = selfP R o) (hv : cs[o + 1]? = some v)
    (l : List UInt8) (hl : Buf B 5 l v w) (hTe : T ≠ 5) (hlen : l.length < 1099511627776) (hB : B ≤ w.heap.size) (c : UInt8) :
    Calls Tryz.prog 168 #[.pointer (some ⟨R, o, none⟩), .int .u8 c.toNat] w fun e w' => e = .returned .nilIface ∧ Wrote R o B T cs (l ++ [c]) w w' := by
  obtain ⟨i0, hi, hz0, hz1, hz2⟩ := info_parts infoByte
  have hne := hl.ne hR hTe
  go_enter Tryz.func168, Tryz.ntmps168
  go_wp2_with (go_at_call 179; refine (copyCheck_any R o cs T _ hR hT p hp hp').mono ?_)
  rintro e w1 ⟨rfl, hR1, hf1⟩
  have HR := Lib.hid hR; clear hR
  have HR1 := Lib.hid hR1; clear hR1
  have hl1 := hl.kept hf1 (fun k hk e => hne (e ▸ hk))
  have c1 : w1.cell? ⟨R, o + 1, none⟩ = some v := by
    rw [(rd HR1.out).1, Array.getElem?_setIfInBounds_ne (by omega)]; exact hv
  go_wp2_with (at_builtin; refine wpList_append_ownF _ rfl _ _ 124 rfl B 5 i0 (.int .u8 0) 1 1 Tryz.underlying124 hi hz0 hz1 hz2 rfl (by decide) _ _ _ rfl (hl1.own.alloc _) ⟨w1.heap.size, 0, none⟩ 1 1 [.int .u8 c.toNat] rfl rfl ?c1 ?c2 ?c3 ?c4 ?c5 ?_)
  case c1 => exact cell_one_new _ _ _
  case c2 => simp [Value.oneCell']
  case c3 => unfold maxLen; omega
  case c4 => omega
  case c5 => have := hf1.size; simp; omega
  intro v' w2 hown' hgrow hnil
  have hR2 : w2.heap[R]? = some (.cells (cs.setIfInBounds o (selfP R o)) T (0, 0)) := by
    rw [hgrow.block R (by have := lt_heap HR1.out; simp; omega) (fun e => hne e.symm)]
    exact heap_alloc HR1.out _
  have HR2 := Lib.hid hR2; clear hR2
  have d1 : w2.cell? ⟨R, o + 1, none⟩ = some v := by
    rw [(rd HR2.out).1, Array.getElem?_setIfInBounds_ne (by omega)]; exact hv
  have d2 := (rd HR2.out).2.1 (o + 1)
  obtain ⟨ao, n', cap, rfl⟩ : ∃ ao n' cap, v' = .slice ao n' cap := by
    rcases hown'.2 with ⟨hv, _⟩ | ⟨g, cap, cur, fz, hv, _⟩
    · exact ⟨_, _, _, hv⟩
    · exact ⟨_, _, _, hv⟩
  have HG := Lib.hid (And.intro hgrow (And.intro hnil hown')); clear hgrow hnil hown'
  go_wp2
  go_ret
  obtain ⟨hgrow, hnil, hown'⟩ := HG.out
  refine ⟨rfl, wrote_close hTe hf1 hl1 (FrB.alloc (FrB.refl _ _ _ _) _) (hl1.alloc _).row hgrow HR2.out (.inr ⟨by simp, ?_⟩)⟩
  simpa [Lib.byteCells_append, byteCells_int] using hown'

theorem Bld.writeByte {R B : Nat} {l : List UInt8} {w : World} (h : Bld R B l w) (c : UInt8) (hlen : l.length < 1099511627776) :
    Calls Tryz.prog 168 #[.pointer (some ⟨R, 0, none⟩), .int .u8 c.toNat] w fun e w' => e = .returned .nilIface ∧ Bld R B (l ++ [c]) w' ∧ FrB R B 5 w w' := by
  obtain ⟨p, v, h1, h2, h3, h4, h5⟩ := h
  refine (writeByte_any R 0 B #[p, v] 151 _ h1 canB_builder p v rfl h2 rfl l h3 (by decide) hlen h5 c).mono ?_
  rintro e w1 ⟨rfl, v', hR1, hb1, hf1⟩
  exact ⟨rfl, ⟨selfP R 0, v', hR1, .inr rfl, hb1, h4, by have := hf1.size; omega⟩, hf1⟩

end Go.Proofs.YtdpnahojhmkemaaGreatDoor
