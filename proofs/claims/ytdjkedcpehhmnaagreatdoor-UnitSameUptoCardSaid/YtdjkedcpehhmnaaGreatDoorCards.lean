/-
  DERIVED. GIVEN WITH THE SEED: THE CARDS: each row of YtdjkedcpehhmnaaGreatDoorRows.lean that lists a variable, with what it lists TIED to the program's text (the seventh form; the later family's looks); each row that meets fmt, with fmt's text TOLD by the authors' own Lean function (tested against real Go, not proved from fmt's source: count such statements apart). THE CARD IS WHAT COUNTS. Prove the row's statement (the work); the ties are given (YtdjkedcpehhmnaaGreatDoorTie.lean); close each card by the builder's one call (the guide's Derived/Test/ToyasCard.lean, 'card_holds'). Laid BY PROGRAM, IN A SANDBOX (cutbox-door.mjs). By AI agents, Wed Nov 11 2026. No macro, syntax, notation, axiom, sorry.
-/
import Derived.Test.YtdjkedcpehhmnaaGreatDoorRows
import GoSem.ClaimSeven
namespace Go.Proofs.YtdjkedcpehhmnaaGreatDoor
namespace Rows

/-- THE TIED CARD OF 'matinslaw10.UnitRows'. -/
def unitRowsCard : Claim7 := { stood := { row := unitRowsRow, standIns := [], harness := (true, "6afda8db407cbc154054f6c12105aecbf7aca9edb4916652c240225c4f76a2f5"), looks := true }, kinds := [], alts := [], laidByText := true, laidKinds := [.data, .data, .data, .data, .sentinel, .sentinel, .pinned], laidTests := true, laidLooks := .later }
def UnitRowsCardSaid : Prop := Claim7.holds Tryz.pinned (.plain (OpenSpec.ofChange unitRowsSpec)) unitRowsCard

/-- THE TIED CARD OF 'matinslaw10.UnitLists'. -/
def unitListsCard : Claim7 := { stood := { row := unitListsRow, standIns := [], harness := (true, "6afda8db407cbc154054f6c12105aecbf7aca9edb4916652c240225c4f76a2f5"), looks := true }, kinds := [], alts := [], laidByText := true, laidKinds := [.data, .data, .data, .data, .sentinel, .sentinel, .pinned], laidTests := true, laidLooks := .later }
def UnitListsCardSaid : Prop := Claim7.holds Tryz.pinned (.plain (OpenSpec.ofChange unitListsSpec)) unitListsCard

/-- THE TIED CARD OF 'matinslaw10.UnitOrder'. -/
def unitOrderCard : Claim7 := { stood := { row := unitOrderRow, standIns := [], harness := (true, "6afda8db407cbc154054f6c12105aecbf7aca9edb4916652c240225c4f76a2f5"), looks := true }, kinds := [], alts := [], laidByText := true, laidKinds := [.data, .data, .data, .data, .sentinel, .sentinel, .pinned], laidTests := true, laidLooks := .later }
def UnitOrderCardSaid : Prop := Claim7.holds Tryz.pinned (.plain (OpenSpec.ofChange unitOrderSpec)) unitOrderCard

/-- THE TIED CARD OF 'matinslaw10.UnitSpec'. -/
def unitSpecCard : Claim7 := { stood := { row := unitSpecRow, standIns := [], harness := (true, "6afda8db407cbc154054f6c12105aecbf7aca9edb4916652c240225c4f76a2f5"), looks := true }, kinds := [], alts := [], laidByText := true, laidKinds := [.data, .data, .data, .data, .sentinel, .sentinel, .pinned], laidTests := true, laidLooks := .later }
def UnitSpecCardSaid : Prop := Claim7.holds Tryz.pinned (.plain (OpenSpec.ofChange unitSpecSpec)) unitSpecCard

/-- THE TIED CARD OF 'matinslaw10.UnitInstances'. -/
def unitInstancesCard : Claim7 := { stood := { row := unitInstancesRow, standIns := [], harness := (true, "6afda8db407cbc154054f6c12105aecbf7aca9edb4916652c240225c4f76a2f5"), looks := true }, kinds := [], alts := [], laidByText := true, laidKinds := [.data, .data, .data, .data, .sentinel, .sentinel, .pinned], laidTests := true, laidLooks := .later }
def UnitInstancesCardSaid : Prop := Claim7.holds Tryz.pinned (.plain (OpenSpec.ofChange unitInstancesSpec)) unitInstancesCard

/-- THE TIED CARD OF 'matinslaw10.UnitMake'. -/
def unitMakeCard : Claim7 := { stood := { row := unitMakeRow, standIns := [], harness := (true, "6afda8db407cbc154054f6c12105aecbf7aca9edb4916652c240225c4f76a2f5"), looks := true }, kinds := [], alts := [], laidByText := true, laidKinds := [.data, .data, .data, .data, .sentinel, .sentinel, .pinned], laidTests := true, laidLooks := .later }
def UnitMakeCardSaid : Prop := Claim7.holds Tryz.pinned (.plain (OpenSpec.ofChange unitMakeSpec)) unitMakeCard

/-- THE TIED CARD OF 'matinslaw10.UnitSame'. -/
def unitSameCard : Claim7 := { stood := { row := unitSameRow, standIns := [], harness := (true, "6afda8db407cbc154054f6c12105aecbf7aca9edb4916652c240225c4f76a2f5"), looks := true }, kinds := [], alts := [], laidByText := true, laidKinds := [.data, .data, .data, .data, .sentinel, .sentinel, .pinned], laidTests := true, laidLooks := .later }
def UnitSameCardSaid : Prop := Claim7.holds Tryz.pinned (.plain (OpenSpec.ofChange unitSameSpec)) unitSameCard

/-- THE SECOND FORM's CARD OF 'matinslaw10.UnitRows'. -/
def unitRowsUptoCard : Claim7 := { stood := { row := unitRowsUptoRow, standIns := [], harness := (true, "6afda8db407cbc154054f6c12105aecbf7aca9edb4916652c240225c4f76a2f5"), looks := true }, kinds := [], alts := [], laidByText := true, laidKinds := [.data, .data, .data, .data, .sentinel, .sentinel, .pinned], laidTests := true, laidLooks := .later }
def UnitRowsUptoCardSaid : Prop := Claim7.holds Tryz.pinned (.plain (OpenSpec.upto unitRowsSpec)) unitRowsUptoCard

/-- THE SECOND FORM's CARD OF 'matinslaw10.UnitLists'. -/
def unitListsUptoCard : Claim7 := { stood := { row := unitListsUptoRow, standIns := [], harness := (true, "6afda8db407cbc154054f6c12105aecbf7aca9edb4916652c240225c4f76a2f5"), looks := true }, kinds := [], alts := [], laidByText := true, laidKinds := [.data, .data, .data, .data, .sentinel, .sentinel, .pinned], laidTests := true, laidLooks := .later }
def UnitListsUptoCardSaid : Prop := Claim7.holds Tryz.pinned (.plain (OpenSpec.upto unitListsSpec)) unitListsUptoCard

/-- THE SECOND FORM's CARD OF 'matinslaw10.UnitOrder'. -/
def unitOrderUptoCard : Claim7 := { stood := { row := unitOrderUptoRow, standIns := [], harness := (true, "6afda8db407cbc154054f6c12105aecbf7aca9edb4916652c240225c4f76a2f5"), looks := true }, kinds := [], alts := [], laidByText := true, laidKinds := [.data, .data, .data, .data, .sentinel, .sentinel, .pinned], laidTests := true, laidLooks := .later }
def UnitOrderUptoCardSaid : Prop := Claim7.holds Tryz.pinned (.plain (OpenSpec.upto unitOrderSpec)) unitOrderUptoCard

/-- THE SECOND FORM's CARD OF 'matinslaw10.UnitSpec'. -/
def unitSpecUptoCard : Claim7 := { stood := { row := unitSpecUptoRow, standIns := [], harness := (true, "6afda8db407cbc154054f6c12105aecbf7aca9edb4916652c240225c4f76a2f5"), looks := true }, kinds := [], alts := [], laidByText := true, laidKinds := [.data, .data, .data, .data, .sentinel, .sentinel, .pinned], laidTests := true, laidLooks := .later }
def UnitSpecUptoCardSaid : Prop := Claim7.holds Tryz.pinned (.plain (OpenSpec.upto unitSpecSpec)) unitSpecUptoCard

/-- THE SECOND FORM's CARD OF 'matinslaw10.UnitInstances'. -/
def unitInstancesUptoCard : Claim7 := { stood := { row := unitInstancesUptoRow, standIns := [], harness := (true, "6afda8db407cbc154054f6c12105aecbf7aca9edb4916652c240225c4f76a2f5"), looks := true }, kinds := [], alts := [], laidByText := true, laidKinds := [.data, .data, .data, .data, .sentinel, .sentinel, .pinned], laidTests := true, laidLooks := .later }
def UnitInstancesUptoCardSaid : Prop := Claim7.holds Tryz.pinned (.plain (OpenSpec.upto unitInstancesSpec)) unitInstancesUptoCard

/-- THE SECOND FORM's CARD OF 'matinslaw10.UnitMake'. -/
def unitMakeUptoCard : Claim7 := { stood := { row := unitMakeUptoRow, standIns := [], harness := (true, "6afda8db407cbc154054f6c12105aecbf7aca9edb4916652c240225c4f76a2f5"), looks := true }, kinds := [], alts := [], laidByText := true, laidKinds := [.data, .data, .data, .data, .sentinel, .sentinel, .pinned], laidTests := true, laidLooks := .later }
def UnitMakeUptoCardSaid : Prop := Claim7.holds Tryz.pinned (.plain (OpenSpec.upto unitMakeSpec)) unitMakeUptoCard

/-- THE SECOND FORM's CARD OF 'matinslaw10.UnitSame'. -/
def unitSameUptoCard : Claim7 := { stood := { row := unitSameUptoRow, standIns := [], harness := (true, "6afda8db407cbc154054f6c12105aecbf7aca9edb4916652c240225c4f76a2f5"), looks := true }, kinds := [], alts := [], laidByText := true, laidKinds := [.data, .data, .data, .data, .sentinel, .sentinel, .pinned], laidTests := true, laidLooks := .later }
def UnitSameUptoCardSaid : Prop := Claim7.holds Tryz.pinned (.plain (OpenSpec.upto unitSameSpec)) unitSameUptoCard
end Rows
end Go.Proofs.YtdjkedcpehhmnaaGreatDoor
