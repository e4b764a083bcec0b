import Derived.Test.YtdpnahojhmkemaaGreatDoorKP47
namespace Go.Proofs.YtdpnahojhmkemaaGreatDoor
open Go Go.RowKit
set_option linter.unusedVariables false
set_option linter.unusedSimpArgs false
set_option maxRecDepth 100000
theorem and_small3 (x : Int) (m : Nat) (hm : m < 9223372036854775808) : ∃ n : Nat, n ≤ m ∧ bits BinOp.and IntKind.i64 x (m : Int) = (n : Int) := by
 have h1 : (BitVec.ofInt 64 (m : Int)).toNat = m := by
  rw [BitVec.ofInt_natCast, BitVec.toNat_ofNat]; exact Nat.mod_eq_of_lt (by omega)
 have h2 : (BitVec.ofInt 64 x &&& BitVec.ofInt 64 (m : Int)).toNat ≤ m := by
  rw [BitVec.toNat_and, h1]; exact Nat.and_le_right
 refine ⟨_, h2, ?_⟩
 show IntKind.i64.wrap ((BitVec.ofInt 64 x &&& BitVec.ofInt 64 (m : Int)).toNat : Int) = _
 generalize (BitVec.ofInt 64 x &&& BitVec.ofInt 64 (m : Int)).toNat = q at *
 rw [IntKind.wrap_i64]
 omega
theorem row_cells {w : World} {o : Option Addr} {vs : List KeyV} (h : RowRd encK 6 w o vs) (k : Nat) (hk : k < vs.length) (b f : Nat) (ho : o = some ⟨b, f, none⟩) (x : KeyV) (hx : x = vs[k]) :
  w.cell? ⟨b, f + k * 6, none⟩ = some (.string ⟨x.sec.toArray⟩) ∧ w.cell? ⟨b, f + k * 6 + 1, none⟩ = some (.string ⟨x.name.toArray⟩) ∧ w.cell? ⟨b, f + k * 6 + 2, none⟩ = some (.int .i64 x.form) ∧ w.cell? ⟨b, f + k * 6 + 3, none⟩ = some (.bool x.list) ∧ w.cell? ⟨b, f + k * 6 + 4, none⟩ = some (.int .i64 x.kinds) ∧ w.cell? ⟨b, f + k * 6 + 5, none⟩ = some (.slice x.wa x.wn x.wc) := by
 obtain ⟨b3, o3, e3, _, hcc⟩ := h k hk
 rw [ho] at e3
 injection e3 with e3
 injection e3 with e4 e5 e6
 subst e4; subst e5
 rw [← hx] at hcc
 exact ⟨hcc 0 _ rfl, hcc 1 _ rfl, hcc 2 _ rfl, hcc 3 _ rfl, hcc 4 _ rfl, hcc 5 _ rfl⟩
end Go.Proofs.YtdpnahojhmkemaaGreatDoor
