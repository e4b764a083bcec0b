/-
  matinslaw7: same.
-/
import Derived.Test.YtbgjpglnikbflaaDoorRef7E
import Derived.Test.YtbgjpglnikbflaaDoorLinesN
namespace Go.Proofs.YtbgjpglnikbflaaDoor
open Go Go.RowKit
set_option linter.unusedVariables false
set_option maxRecDepth 100000

theorem below_drew' {B : Nat} {a w : World} (h : Below B a w) : Below B a w.drew := ⟨h.os, h.tape, h.output, h.size, h.block⟩
theorem sameLns_len {l m : List Ln} (h : sameLns l m) : l.length = m.length := by
  induction h with
  | nil => rfl
  | cons h t ih => simp [ih]
theorem sameLns_get {l m : List Ln} (h : sameLns l m) : ∀ k (h1 : k < l.length) (h2 : k < m.length), sameLn l[k] m[k] := by
  induction h with
  | nil => intro k h1; simp at h1
  | cons h t ih =>
    intro k h1 h2
    cases k with
    | zero => exact h
    | succ k => exact ih k (by simpa using h1) (by simpa using h2)

set_option maxHeartbeats 1000000 in
theorem same_yes (oa ob : Option Addr) (ca cb : Nat) (l m : List Ln) (w : World) (hl : LnRow w oa l) (hm : LnRow w ob m) (hll : l.length ≤ 100000000) (hs : sameLns l m) :
    Calls Tryd.prog 18 #[.slice oa l.length ca, .slice ob m.length cb] w fun e w' => e = .returned (.bool true) ∧ Below w.heap.size w w' := by
  have hlen := sameLns_len hs
  have hne : ((l.length : Int) != (m.length : Int)) = false := by simp [hlen]
  have Hlen := Lib.hid hlen; clear hlen
  have HS := Lib.hid hs; clear hs
  have HL := Lib.hid hl; clear hl
  have HM := Lib.hid hm; clear hm
  go_enter Tryd.func18, Tryd.ntmps18
  go_wp2_with fail
  go_loopg [15] (l.length + 1) (fun f i wr => ∃ k : Nat, k ≤ l.length ∧ i = .int .i64 k ∧ l.length - k < f ∧ Hid (Below w.heap.size w wr))
  case atStart => exact ⟨0, by omega, rfl, by omega, Below.refl _ _⟩
  case round =>
    obtain ⟨k, hk, rfl, hfu, HB⟩ := hrel
    by_cases hlt : k < l.length
    · have hlt2 : k < m.length := by have := Hlen.out; omega
      obtain ⟨b1, o1, rfl, c0, c1, c2, c3⟩ := (HL.out.below HB.out (Nat.le_refl _)) k hlt
      obtain ⟨b2, o2, rfl, d0, d1, d2, d3⟩ := (HM.out.below HB.out (Nat.le_refl _)) k hlt2
      have hsz := HB.out.size
      have hsame := sameLns_get HS.out k hlt hlt2
      have hrun := run_neq_line ⟨l[k].sec, l[k].key, l[k].val, 0⟩ ⟨m[k].sec, m[k].key, m[k].val, 0⟩ true (by simp [hsame.1, hsame.2.1, hsame.2.2])
      simp only at hrun
      have hgd := guard_line
      clear hsame
      have hb1 : b1 < wr.heap.size := World.block_lt_of_cell? wr _ c0
      have hb2 : b2 < wr.heap.size := World.block_lt_of_cell? wr _ d0
      go_wp2_with fail
      go_region
      all_goals
        go_wp2_with fail
        go_roundg (l.length - k)
        case measure => omega
        case rel => exact ⟨k + 1, by omega, by go_num, by omega, below_drew' ((HB.out.alloc hsz _).alloc (by simp; omega) _)⟩
    · go_wp2_with fail
      go_ret
      exact ⟨rfl, HB.out⟩
end Go.Proofs.YtbgjpglnikbflaaDoor
