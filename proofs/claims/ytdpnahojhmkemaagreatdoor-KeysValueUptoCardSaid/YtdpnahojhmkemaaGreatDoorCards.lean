/-
  DERIVED. GIVEN WITH THE SEED: THE CARDS: each row of YtdpnahojhmkemaaGreatDoorRows.lean that lists a variable, with what it lists TIED to the program's text (the seventh form; the later family's looks); each row that meets fmt, with fmt's text TOLD by the authors' own Lean function (tested against real Go, not proved from fmt's source: count such statements apart). THE CARD IS WHAT COUNTS. Prove the row's statement (the work); the ties are given (YtdpnahojhmkemaaGreatDoorTie.lean); close each card by the builder's one call (the guide's Derived/Test/ToyasCard.lean, 'card_holds'). Laid BY PROGRAM, IN A SANDBOX (cutbox-door.mjs). By AI agents, Wed Nov 11 2026. No macro, syntax, notation, axiom, sorry.
-/
import Derived.Test.YtdpnahojhmkemaaGreatDoorRows
import GoSem.ClaimSeven
namespace Go.Proofs.YtdpnahojhmkemaaGreatDoor
namespace Rows

/-- THE TIED CARD OF 'matinslaw8.KeysTable'. -/
def keysTableCard : Claim7 := { stood := { row := keysTableRow, standIns := [], harness := (true, "973137940fd705b96006d8fdc9d39c3b6736caedde1cdc132efa799b1218d1ca"), looks := true }, kinds := [], alts := [], laidByText := true, laidKinds := [.data, .data, .data, .data, .sentinel, .sentinel, .pinned], laidTests := true, laidLooks := .later }
def KeysTableCardSaid : Prop := Claim7.holds Tryz.pinned (.plain (OpenSpec.ofChange keysTableSpec)) keysTableCard

/-- THE TIED CARD OF 'matinslaw8.KeysValue'. -/
def keysValueCard : Claim7 := { stood := { row := keysValueRow, standIns := [], harness := (true, "973137940fd705b96006d8fdc9d39c3b6736caedde1cdc132efa799b1218d1ca"), looks := true }, kinds := [], alts := [], laidByText := true, laidKinds := [.data, .data, .data, .data, .sentinel, .sentinel, .pinned], laidTests := true, laidLooks := .later }
def KeysValueCardSaid : Prop := Claim7.holds Tryz.pinned (.plain (OpenSpec.ofChange keysValueSpec)) keysValueCard

/-- THE TIED CARD OF 'matinslaw8.KeysCheck'. -/
def keysCheckCard : Claim7 := { stood := { row := keysCheckRow, standIns := [], harness := (true, "973137940fd705b96006d8fdc9d39c3b6736caedde1cdc132efa799b1218d1ca"), looks := true }, kinds := [], alts := [], laidByText := true, laidKinds := [.data, .data, .data, .data, .sentinel, .sentinel, .pinned], laidTests := true, laidLooks := .later }
def KeysCheckCardSaid : Prop := Claim7.holds Tryz.pinned (.plain (OpenSpec.ofChange keysCheckSpec)) keysCheckCard

/-- THE TIED CARD OF 'matinslaw8.KeysFirst'. -/
def keysFirstCard : Claim7 := { stood := { row := keysFirstRow, standIns := [], harness := (true, "973137940fd705b96006d8fdc9d39c3b6736caedde1cdc132efa799b1218d1ca"), looks := true }, kinds := [], alts := [], laidByText := true, laidKinds := [.data, .data, .data, .data, .sentinel, .sentinel, .pinned], laidTests := true, laidLooks := .later }
def KeysFirstCardSaid : Prop := Claim7.holds Tryz.pinned (.plain (OpenSpec.ofChange keysFirstSpec)) keysFirstCard

/-- THE TIED CARD OF 'matinslaw8.KeysNames'. -/
def keysNamesCard : Claim7 := { stood := { row := keysNamesRow, standIns := [], harness := (true, "973137940fd705b96006d8fdc9d39c3b6736caedde1cdc132efa799b1218d1ca"), looks := true }, kinds := [], alts := [], laidByText := true, laidKinds := [.data, .data, .data, .data, .sentinel, .sentinel, .pinned], laidTests := true, laidLooks := .later }
def KeysNamesCardSaid : Prop := Claim7.holds Tryz.pinned (.plain (OpenSpec.ofChange keysNamesSpec)) keysNamesCard

/-- THE TIED CARD OF 'matinslaw8.KeysKinds'. -/
def keysKindsCard : Claim7 := { stood := { row := keysKindsRow, standIns := [], harness := (true, "973137940fd705b96006d8fdc9d39c3b6736caedde1cdc132efa799b1218d1ca"), looks := true }, kinds := [], alts := [], laidByText := true, laidKinds := [.data, .data, .data, .data, .sentinel, .sentinel, .pinned], laidTests := true, laidLooks := .later }
def KeysKindsCardSaid : Prop := Claim7.holds Tryz.pinned (.plain (OpenSpec.ofChange keysKindsSpec)) keysKindsCard

/-- THE SECOND FORM's CARD OF 'matinslaw8.KeysTable'. -/
def keysTableUptoCard : Claim7 := { stood := { row := keysTableUptoRow, standIns := [], harness := (true, "973137940fd705b96006d8fdc9d39c3b6736caedde1cdc132efa799b1218d1ca"), looks := true }, kinds := [], alts := [], laidByText := true, laidKinds := [.data, .data, .data, .data, .sentinel, .sentinel, .pinned], laidTests := true, laidLooks := .later }
def KeysTableUptoCardSaid : Prop := Claim7.holds Tryz.pinned (.plain (OpenSpec.upto keysTableSpec)) keysTableUptoCard

/-- THE SECOND FORM's CARD OF 'matinslaw8.KeysValue'. -/
def keysValueUptoCard : Claim7 := { stood := { row := keysValueUptoRow, standIns := [], harness := (true, "973137940fd705b96006d8fdc9d39c3b6736caedde1cdc132efa799b1218d1ca"), looks := true }, kinds := [], alts := [], laidByText := true, laidKinds := [.data, .data, .data, .data, .sentinel, .sentinel, .pinned], laidTests := true, laidLooks := .later }
def KeysValueUptoCardSaid : Prop := Claim7.holds Tryz.pinned (.plain (OpenSpec.upto keysValueSpec)) keysValueUptoCard

/-- THE SECOND FORM's CARD OF 'matinslaw8.KeysCheck'. -/
def keysCheckUptoCard : Claim7 := { stood := { row := keysCheckUptoRow, standIns := [], harness := (true, "973137940fd705b96006d8fdc9d39c3b6736caedde1cdc132efa799b1218d1ca"), looks := true }, kinds := [], alts := [], laidByText := true, laidKinds := [.data, .data, .data, .data, .sentinel, .sentinel, .pinned], laidTests := true, laidLooks := .later }
def KeysCheckUptoCardSaid : Prop := Claim7.holds Tryz.pinned (.plain (OpenSpec.upto keysCheckSpec)) keysCheckUptoCard

/-- THE SECOND FORM's CARD OF 'matinslaw8.KeysFirst'. -/
def keysFirstUptoCard : Claim7 := { stood := { row := keysFirstUptoRow, standIns := [], harness := (true, "973137940fd705b96006d8fdc9d39c3b6736caedde1cdc132efa799b1218d1ca"), looks := true }, kinds := [], alts := [], laidByText := true, laidKinds := [.data, .data, .data, .data, .sentinel, .sentinel, .pinned], laidTests := true, laidLooks := .later }
def KeysFirstUptoCardSaid : Prop := Claim7.holds Tryz.pinned (.plain (OpenSpec.upto keysFirstSpec)) keysFirstUptoCard

/-- THE SECOND FORM's CARD OF 'matinslaw8.KeysNames'. -/
def keysNamesUptoCard : Claim7 := { stood := { row := keysNamesUptoRow, standIns := [], harness := (true, "973137940fd705b96006d8fdc9d39c3b6736caedde1cdc132efa799b1218d1ca"), looks := true }, kinds := [], alts := [], laidByText := true, laidKinds := [.data, .data, .data, .data, .sentinel, .sentinel, .pinned], laidTests := true, laidLooks := .later }
def KeysNamesUptoCardSaid : Prop := Claim7.holds Tryz.pinned (.plain (OpenSpec.upto keysNamesSpec)) keysNamesUptoCard

/-- THE SECOND FORM's CARD OF 'matinslaw8.KeysKinds'. -/
def keysKindsUptoCard : Claim7 := { stood := { row := keysKindsUptoRow, standIns := [], harness := (true, "973137940fd705b96006d8fdc9d39c3b6736caedde1cdc132efa799b1218d1ca"), looks := true }, kinds := [], alts := [], laidByText := true, laidKinds := [.data, .data, .data, .data, .sentinel, .sentinel, .pinned], laidTests := true, laidLooks := .later }
def KeysKindsUptoCardSaid : Prop := Claim7.holds Tryz.pinned (.plain (OpenSpec.upto keysKindsSpec)) keysKindsUptoCard
end Rows
end Go.Proofs.YtdpnahojhmkemaaGreatDoor
