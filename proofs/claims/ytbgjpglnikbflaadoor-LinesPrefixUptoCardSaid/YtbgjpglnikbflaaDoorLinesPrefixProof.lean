/-
  The text of the first of some lines is how the text of all begins: matinslaw7.LinesPrefix returns true for every slice of lines and every int.
  Condition: what the arguments hold is together of bulk at most 1048576 (the second form). The card ties the two tables of package utf8 that the row lists.
-/
import Derived.Test.YtbgjpglnikbflaaDoorCards
import Derived.Test.YtbgjpglnikbflaaDoorTie
import Derived.Test.YtbgjpglnikbflaaDoorLawD
import Derived.SevenTiedAt
import Derived.Test.YtbgjpglnikbflaaDoorLaw7X
namespace Go.Proofs.YtbgjpglnikbflaaDoor.lawLinesPrefix
open Go Go.RowKit Go.ChangeShapes Go.WideShapes Go.ChangeAt
open Go.ChangeMaps (open_string shut_string)
set_option linter.unusedVariables false

theorem contract (H : Type) (enc : TypeId × Value → H) (W : World) (base : Nat) (args : Array Value) (ds gs : List (DataW H)) (before : List MemPlace) (hM : MaxAt W)
    (hval : ∀ (j : Nat) t v, Tryd.f9.params[j]? = some t → args[j]? = some v → Value.okWide Tryd.prog W .any base t v)
    (hW : DataW.Whole enc Tryd.prog Tryd.f9.params.toList Rows.linesPrefixSpec.vars false W args.toList ds gs before) (hk : Rows.uptoSmall H (ds ++ gs) = true) :
    Calls Tryd.prog 9 args W fun e W' => ∃ v, e = .returned v ∧ Rows.linesPrefixSpec.post enc Tryd.prog Tryd.f9 false true false false W args v W' := by
  have hW' := hW
  obtain ⟨p, q, hA0, hV, rfl, hfz, hnd⟩ := hW
  have hA : DataW.TrodAll enc Tryd.prog W 0 (fun _ => true) true Tryd.f9.params.toList args.toList ds p := hA0
  rw [Tryd.params9] at hA hval
  obtain ⟨v0, vs0, d0, ds0, p0, q0, hargs, rfl, rfl, h0, r0⟩ := trodAll_cons hA
  obtain ⟨v1, vs1, d1, ds1, p1, q1, rfl, rfl, rfl, h1, r1⟩ := trodAll_cons r0
  obtain ⟨rfl, rfl, rfl⟩ := trodAll_nil r1
  obtain rfl : args = #[v0, v1] := by cases args; simp_all
  obtain ⟨rfl, rfl⟩ := trodVars_none hV
  have hk' : Rows.uptoBulkAll ([d0, d1] : List (DataW H)) ≤ 1048576 := by
    have := of_decide_eq_true hk
    simpa using this
  simp only [Rows.uptoBulkAll] at hk'
  obtain ⟨oa0, cap0, l0, rfl, row0, y0, z0⟩ := open_lns2 (hval 0 23 v0 rfl rfl) h0
  have z0' : sumLn l0 ≤ 1048576 := by omega
  obtain ⟨a1, rfl, rfl, rfl, m1⟩ := open_int Tryd.underlying3 (hval 1 3 v1 rfl rfl) h1
  have walk : Calls Tryd.prog 9 #[.slice oa0 l0.length cap0, .int .i64 a1] W fun e W' => e = .returned (.bool true) ∧ Below W.heap.size W W' := prefix_walk oa0 cap0 l0 a1 W row0 z0' y0 hM
  refine walk.mono fun e W' ⟨he, hg⟩ => ?_
  subst he
  exact law_post hW' hg rfl rfl (by simp [Tryd.params9]; decide +kernel) rfl rfl rfl

theorem laid_met (os : Os) : laidMet Tryd.prog Rows.linesPrefixUptoRow.laid ((World.laidAll Tryd.prog os Rows.linesPrefixUptoRow.laid).forCall (fun _ _ => 0) ⟨#[], #[.slice none 0 0, .int .i64 0], []⟩).memory :=
  laidMet_laidAll _ (by kernel_rfl) (by kernel_rfl)
theorem reads (os : Os) {H : Type} (enc : TypeId × Value → H) : DataW.whole enc Tryd.prog ((World.laidAll Tryd.prog os Rows.linesPrefixUptoRow.laid).forCall (fun _ _ => 0) ⟨#[], #[.slice none 0 0, .int .i64 0], []⟩).memory Tryd.f9.params.toList Rows.linesPrefixSpec.vars false (#[.slice none 0 0, .int .i64 0] : Array Value).toList 8 = some ([.nil, .lit (.int .i64 0)], [], []) := by kernel_rfl

set_option maxRecDepth 100000 in
theorem lifted (os : Os) (started : os.Started) (H : Type) (enc : TypeId × Value → H) (F : Stop.Interp) :
    ReturnsInHanded {} Tryd.checked os 9 .any ((Rows.OpenSpec.upto Rows.linesPrefixSpec).preRow enc Tryd.prog Tryd.f9 Rows.linesPrefixUptoRow.domain false Rows.linesPrefixUptoRow.laid) (((Rows.OpenSpec.upto Rows.linesPrefixSpec).at F).post enc Tryd.prog Tryd.f9 false true false false) := by
  refine returnsInHanded_of_row (C := Tryd.checked) (s := Rows.OpenSpec.upto Rows.linesPrefixSpec) own started (by kernel_rfl) Tryd.func9
    (witness_card (enc := enc) (C := Tryd.checked) (World.laidAll Tryd.prog os Rows.linesPrefixUptoRow.laid) #[.slice none 0 0, .int .i64 0] (World.laidAll_os _ _ _) (World.shaped_of_ZipB (by kernel_rfl) (by kernel_rfl)) (by kernel_rfl)
      (OpenSpec.preRow_of_cond 8 (reads os enc) (by kernel_rfl) (fun k hk => by cases hk; kernel_rfl) (by kernel_rfl) (by rw [MakeChecks.laidMetH_plain _ _ _ (by kernel_rfl)]; exact laid_met os))) ?_
  intro W base args ds gs before hval hW _ hcond _ _ hsh _
  exact contract H enc W base args ds gs before (maxAt_of hsh) hval hW (hcond _ rfl)

theorem said : Rows.LinesPrefixUptoSaid :=
  OpenClaim.holds_of_cond 9 Tryd.f9 rfl rfl rfl rfl rfl rfl rfl ⟨rfl, rfl, rfl, rfl, rfl⟩ rfl rfl rfl rfl rfl (by kernel_rfl) Tryd.func9 (by kernel_rfl)
    (of_decide_eq_true (by kernel_rfl)) (by unfold Func.isWrapper; first | (rw [if_pos (by decide +kernel)]; kernel_rfl) | (rw [if_neg (by decide +kernel)]; exact ⟨rfl, rfl⟩))
    (fun os started H enc _ F => by rw [OpenClaim.pre_eq_preRow]; exact lifted os started H enc F)

/-- The card. -/
theorem proved : Rows.LinesPrefixUptoCardSaid :=
  Claim7.holds_tied_plain_at .later [] _ _ _ _ said (fun _ h => by cases h) (by kernel_rfl) (fun _ h => by cases h) linesPrefixUpto_row_tie rfl ⟨rfl, rfl⟩ (by kernel_rfl) rfl
    (plain_of (by kernel_rfl) Tryd.func9 (by kernel_rfl) [23, 3] (by rw [Tryd.params9]) (by kernel_rfl)) (by kernel_rfl)
end Go.Proofs.YtbgjpglnikbflaaDoor.lawLinesPrefix
