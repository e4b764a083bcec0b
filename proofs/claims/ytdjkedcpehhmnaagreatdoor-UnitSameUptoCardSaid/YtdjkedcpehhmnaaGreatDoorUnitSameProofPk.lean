/-
  UnitSame: sameness is sameness of every field.
  Condition: what the arguments hold is together of bulk at most 1048576 (the second form). The card ties the two tables of package utf8 that the row lists.
-/
import Derived.Test.YtdjkedcpehhmnaaGreatDoorCards
import Derived.Test.YtdjkedcpehhmnaaGreatDoorTie
import Derived.SevenTiedAt
import Derived.Test.YtdjkedcpehhmnaaGreatDoorUS2
import Derived.Test.YtdjkedcpehhmnaaGreatDoorUS43
import Derived.Test.YtdjkedcpehhmnaaGreatDoorUS51

namespace Go.Proofs.YtdjkedcpehhmnaaGreatDoor.lawUnitSame
open Go Go.RowKit Go.ChangeShapes Go.WideShapes Go.ChangeAt
open Go.ChangeMaps (open_string shut_string)
set_option linter.unusedVariables false
set_option maxRecDepth 100000

theorem grown_fix {P : Program} {L : List TypeId} (h : P.grow L = L) : ∀ n, P.grown n L = L
  | 0 => rfl
  | n + 1 => by
    show P.grown n (P.grow L) = L
    rw [h]
    exact grown_fix h n
theorem book_fix {P : Program} {t : TypeId} {L : List TypeId} (h1 : P.grow (P.grow [t]) = L) (h2 : P.grow L = L) (hk : 2 ≤ P.types.size) : P.book t = L := by
  unfold Program.book
  obtain ⟨n, hn⟩ : ∃ n, P.types.size = n + 2 := ⟨P.types.size - 2, by omega⟩
  rw [hn]
  show P.grown n (P.grow (P.grow [t])) = L
  rw [h1]
  exact grown_fix h2 n
def partsU : List TypeId := [30, 9, 3, 4, 24, 25, 26, 27, 28, 54, 56, 58]
theorem book_unit : Tryz.prog.book 30 = partsU := book_fix (by kernel_rfl) (by kernel_rfl) (by decide +kernel)
theorem bookU_of {P : Program} (h : P = Tryz.prog) : P.book = fun t => if t = 30 then partsU else Tryz.prog.book t := by
  subst h
  funext t
  by_cases e : t = 30
  · rw [if_pos e, e]; exact book_unit
  · rw [if_neg e]

theorem contract (H : Type) (enc : TypeId × Value → H) (W : World) (base : Nat) (args : Array Value) (ds gs : List (DataW H)) (before : List MemPlace) (hM : MaxAt W)
    (hval : ∀ (j : Nat) t v, Tryz.f9.params[j]? = some t → args[j]? = some v → Value.okWide Tryz.prog W .any base t v)
    (hW : DataW.Whole enc Tryz.prog Tryz.f9.params.toList Rows.unitSameSpec.vars false W args.toList ds gs before) (hk : Rows.uptoSmall H (ds ++ gs) = true) :
    Calls Tryz.prog 9 args W fun e W' => ∃ v, e = .returned v ∧ Rows.unitSameSpec.post enc Tryz.prog Tryz.f9 false true false false W args v W' := by
  have hW' := hW
  obtain ⟨p, q, hA0, hV, rfl, hfz, hnd⟩ := hW
  have hA : DataW.TrodAll enc Tryz.prog W 0 (fun _ => true) true Tryz.f9.params.toList args.toList ds p := hA0
  rw [Tryz.params9] at hA hval
  obtain ⟨v0, vs0, d0, ds0, p0, q0, hargs, rfl, rfl, h0, r0⟩ := trodAll_cons hA
  obtain ⟨v1, vs1, d1, ds1, p1, q1, rfl, rfl, rfl, h1, r1⟩ := trodAll_cons r0
  obtain ⟨v2, vs2, d2, ds2, p2, q2, rfl, rfl, rfl, h2, r2⟩ := trodAll_cons r1
  obtain ⟨rfl, rfl, rfl⟩ := trodAll_nil r2
  obtain rfl : args = #[v0, v1, v2] := by cases args; simp_all
  obtain ⟨rfl, rfl⟩ := trodVars_none hV
  have hk' : Rows.uptoBulkAll ([d0, d1, d2] : List (DataW H)) ≤ 1048576 := by
    have := of_decide_eq_true hk
    simpa using this
  simp only [Rows.uptoBulkAll] at hk'
  obtain ⟨cs0, u0, rfl, see0, typ0, sm0⟩ := open_unit (hval 0 30 v0 rfl rfl) (by omega) h0
  obtain ⟨cs1, u1, rfl, see1, typ1, sm1⟩ := open_unit (hval 1 30 v1 rfl rfl) (by omega) h1
  obtain ⟨a2, rfl, rfl, rfl, m2⟩ := open_int Tryz.underlying3 (hval 2 3 v2 rfl rfl) h2
  have walk : Calls Tryz.prog 9 #[.agg cs0, .agg cs1, .int .i64 a2] W fun e W' => e = .returned (.bool true) ∧ Below W.heap.size W W' := unitSameLaw_any cs0 cs1 u0 u1 a2 W hM see0 see1 typ0 typ1 sm0
  refine walk.mono fun e W' ⟨he, hg⟩ => ?_
  subst he
  exact law_post hW' hg rfl rfl (by simp [Tryz.params9]; decide +kernel) rfl rfl rfl

theorem laid_met (os : Os) : laidMet Tryz.prog Rows.unitSameUptoRow.laid ((World.laidAll Tryz.prog os Rows.unitSameUptoRow.laid).forCall (fun _ _ => 0) ⟨#[], #[.agg unitZero, .agg unitZero, .int .i64 0], []⟩).memory :=
  laidMet_laidAll _ (by kernel_rfl) (by kernel_rfl)
theorem reads (os : Os) {H : Type} (enc : TypeId × Value → H) : DataW.whole enc Tryz.prog ((World.laidAll Tryz.prog os Rows.unitSameUptoRow.laid).forCall (fun _ _ => 0) ⟨#[], #[.agg unitZero, .agg unitZero, .int .i64 0], []⟩).memory Tryz.f9.params.toList Rows.unitSameSpec.vars false (#[.agg unitZero, .agg unitZero, .int .i64 0] : Array Value).toList 8 = some ([.agg [.lit (.string []), .lit (.int .i64 0), .lit (.string []), .lit (.bool false), .nil, .lit (.int .i64 0), .lit (.int .i64 0), .lit (.int .i64 0), .nil, .nil, .nil, .nil, .nil, .lit (.bool false), .lit (.int .i64 0), .lit (.int .i64 0), .lit (.int .i64 0), .lit (.int .i64 0), .nil, .nil, .nil, .nil, .lit (.int .i64 0), .lit (.string []), .lit (.string []), .nil, .nil, .nil, .nil, .lit (.bool false), .nil, .nil, .nil, .nil, .lit (.string [])], .agg [.lit (.string []), .lit (.int .i64 0), .lit (.string []), .lit (.bool false), .nil, .lit (.int .i64 0), .lit (.int .i64 0), .lit (.int .i64 0), .nil, .nil, .nil, .nil, .nil, .lit (.bool false), .lit (.int .i64 0), .lit (.int .i64 0), .lit (.int .i64 0), .lit (.int .i64 0), .nil, .nil, .nil, .nil, .lit (.int .i64 0), .lit (.string []), .lit (.string []), .nil, .nil, .nil, .nil, .lit (.bool false), .nil, .nil, .nil, .nil, .lit (.string [])], .lit (.int .i64 0)], [], []) := by kernel_rfl

set_option maxRecDepth 100000 in
theorem lifted (os : Os) (started : os.Started) (H : Type) (enc : TypeId × Value → H) (F : Stop.Interp) :
    ReturnsInHanded {} Tryz.checked os 9 .any ((Rows.OpenSpec.upto Rows.unitSameSpec).preRow enc Tryz.prog Tryz.f9 Rows.unitSameUptoRow.domain false Rows.unitSameUptoRow.laid) (((Rows.OpenSpec.upto Rows.unitSameSpec).at F).post enc Tryz.prog Tryz.f9 false true false false) := by
  refine returnsInHanded_of_row (C := Tryz.checked) (s := Rows.OpenSpec.upto Rows.unitSameSpec) own started (by kernel_rfl) Tryz.func9
    (witness_card (enc := enc) (C := Tryz.checked) (World.laidAll Tryz.prog os Rows.unitSameUptoRow.laid) #[.agg unitZero, .agg unitZero, .int .i64 0] (World.laidAll_os _ _ _) (World.shaped_of_ZipB (by kernel_rfl) (by kernel_rfl)) (by kernel_rfl)
      (OpenSpec.preRow_of_cond 8 (reads os enc) (by kernel_rfl) (fun k hk => by cases hk; kernel_rfl) (by kernel_rfl) (by rw [MakeChecks.laidMetH_plain _ _ _ (by kernel_rfl)]; exact laid_met os))) ?_
  intro W base args ds gs before hval hW _ hcond _ _ hsh _
  exact contract H enc W base args ds gs before (maxAt_of hsh) hval hW (hcond _ rfl)

set_option maxHeartbeats 16000000 in
theorem said : Rows.UnitSameUptoSaid :=
  OpenClaim.holds_of_cond 9 Tryz.f9 rfl rfl rfl rfl rfl rfl rfl ⟨rfl, rfl, rfl, rfl, rfl⟩ rfl rfl rfl rfl rfl (by kernel_rfl) Tryz.func9 (by simp only [joinedFacts, Bool.and_eq_true]; (repeat' apply And.intro); all_goals (as_aux_lemma => kernel_rfl))
    (of_decide_eq_true (by kernel_rfl)) (by unfold Func.isWrapper; first | (rw [if_pos (by decide +kernel)]; kernel_rfl) | (rw [if_neg (by decide +kernel)]; exact ⟨rfl, rfl⟩))
    (fun os started H enc _ F => by rw [OpenClaim.pre_eq_preRow]; exact lifted os started H enc F)

/-- The card. -/
theorem proved : Rows.UnitSameUptoCardSaid :=
  Claim7.holds_tied_plain_at .later [] _ _ _ _ said (fun _ h => by cases h) (by kernel_rfl) (fun _ h => by cases h) unitSameUpto_row_tie rfl ⟨rfl, rfl⟩ (by kernel_rfl) rfl
    (plain_of (by kernel_rfl) Tryz.func9 (by kernel_rfl) [30, 30, 3] (by rw [Tryz.params9]) (by kernel_rfl)) (by kernel_rfl)
end Go.Proofs.YtdjkedcpehhmnaaGreatDoor.lawUnitSame
