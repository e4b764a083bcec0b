/-
  DERIVED. GIVEN WITH THE SEED: THE CARDS: each row of YtgoooebfhdbbkaaGreatDoorRows.lean that lists a variable, with what it lists TIED to the program's text (the seventh form; the later family's looks); each row that meets fmt, with fmt's text TOLD by the authors' own Lean function (tested against real Go, not proved from fmt's source: count such statements apart). THE CARD IS WHAT COUNTS. Prove the row's statement (the work); the ties are given (YtgoooebfhdbbkaaGreatDoorTie.lean); close each card by the builder's one call (the guide's Derived/Test/ToyasCard.lean, 'card_holds'). Laid BY PROGRAM, IN A SANDBOX (cutbox-door.mjs). By AI agents, Wed Nov 11 2026. No macro, syntax, notation, axiom, sorry.
-/
import Derived.Test.YtgoooebfhdbbkaaGreatDoorRows
import GoSem.ClaimSeven
namespace Go.Proofs.YtgoooebfhdbbkaaGreatDoor
namespace Rows

/-- THE TIED CARD OF 'matinslaw10.UnitMake'. -/
def unitMakeCard : Claim7 := { stood := { row := unitMakeRow, standIns := [], harness := (true, "31972729502b558b816d14e0e1ac79900ec5cd3a58aaf082ffdfbf4bac1b5c17"), looks := true }, kinds := [], alts := [], laidByText := true, laidKinds := [.data, .data, .data, .data, .sentinel, .sentinel, .pinned], laidTests := true, laidLooks := .later }
def UnitMakeCardSaid : Prop := Claim7.holds Tryz.pinned (.plain (OpenSpec.ofChange unitMakeSpec)) unitMakeCard

/-- THE SECOND FORM's CARD OF 'matinslaw10.UnitMake'. -/
def unitMakeUptoCard : Claim7 := { stood := { row := unitMakeUptoRow, standIns := [], harness := (true, "31972729502b558b816d14e0e1ac79900ec5cd3a58aaf082ffdfbf4bac1b5c17"), looks := true }, kinds := [], alts := [], laidByText := true, laidKinds := [.data, .data, .data, .data, .sentinel, .sentinel, .pinned], laidTests := true, laidLooks := .later }
def UnitMakeUptoCardSaid : Prop := Claim7.holds Tryz.pinned (.plain (OpenSpec.upto unitMakeSpec)) unitMakeUptoCard
end Rows
end Go.Proofs.YtgoooebfhdbbkaaGreatDoor
