/-
  DERIVED. GIVEN WITH THE SEED: THE CARDS: each row of YtmgmbeipbeknaaaGreatDoorRows.lean that lists a variable, with what it lists TIED to the program's text (the seventh form; the later family's looks); each row that meets fmt, with fmt's text TOLD by the authors' own Lean function (tested against real Go, not proved from fmt's source: count such statements apart). THE CARD IS WHAT COUNTS. Prove the row's statement (the work); the ties are given (YtmgmbeipbeknaaaGreatDoorTie.lean); close each card by the builder's one call (the guide's Derived/Test/ToyasCard.lean, 'card_holds'). Laid BY PROGRAM, IN A SANDBOX (cutbox-door.mjs). By AI agents, Wed Nov 11 2026. No macro, syntax, notation, axiom, sorry.
-/
import Derived.Test.YtmgmbeipbeknaaaGreatDoorRows
import GoSem.ClaimSeven
namespace Go.Proofs.YtmgmbeipbeknaaaGreatDoor
namespace Rows

/-- THE TIED CARD OF 'matinslaw11.RenderAll'. -/
def renderAllCard : Claim7 := { stood := { row := renderAllRow, standIns := [], harness := (true, "ab16921d730ee26c7ffbcc8266dfc012bbe809f60ceeb5160c0239c918054540"), looks := true }, kinds := [], alts := [], laidByText := true, laidKinds := [.data, .data, .data, .data, .sentinel, .sentinel, .pinned], laidTests := true, laidLooks := .later }
def RenderAllCardSaid : Prop := Claim7.holds Tryz.pinned (.plain (OpenSpec.ofChange renderAllSpec)) renderAllCard

/-- THE TIED CARD OF 'matinslaw11.RenderBack'. -/
def renderBackCard : Claim7 := { stood := { row := renderBackRow, standIns := [], harness := (true, "ab16921d730ee26c7ffbcc8266dfc012bbe809f60ceeb5160c0239c918054540"), looks := true }, kinds := [], alts := [], laidByText := true, laidKinds := [.data, .data, .data, .data, .sentinel, .sentinel, .pinned], laidTests := true, laidLooks := .later }
def RenderBackCardSaid : Prop := Claim7.holds Tryz.pinned (.plain (OpenSpec.ofChange renderBackSpec)) renderBackCard

/-- THE TIED CARD OF 'matinslaw11.RenderFew'. -/
def renderFewCard : Claim7 := { stood := { row := renderFewRow, standIns := [], harness := (true, "ab16921d730ee26c7ffbcc8266dfc012bbe809f60ceeb5160c0239c918054540"), looks := true }, kinds := [], alts := [], laidByText := true, laidKinds := [.data, .data, .data, .data, .sentinel, .sentinel, .pinned], laidTests := true, laidLooks := .later }
def RenderFewCardSaid : Prop := Claim7.holds Tryz.pinned (.plain (OpenSpec.ofChange renderFewSpec)) renderFewCard

/-- THE TIED CARD OF 'matinslaw11.RenderTurn'. -/
def renderTurnCard : Claim7 := { stood := { row := renderTurnRow, standIns := [], harness := (true, "ab16921d730ee26c7ffbcc8266dfc012bbe809f60ceeb5160c0239c918054540"), looks := true }, kinds := [], alts := [], laidByText := true, laidKinds := [.data, .data, .data, .data, .sentinel, .sentinel, .pinned], laidTests := true, laidLooks := .later }
def RenderTurnCardSaid : Prop := Claim7.holds Tryz.pinned (.plain (OpenSpec.ofChange renderTurnSpec)) renderTurnCard

/-- THE SECOND FORM's CARD OF 'matinslaw11.RenderAll'. -/
def renderAllUptoCard : Claim7 := { stood := { row := renderAllUptoRow, standIns := [], harness := (true, "ab16921d730ee26c7ffbcc8266dfc012bbe809f60ceeb5160c0239c918054540"), looks := true }, kinds := [], alts := [], laidByText := true, laidKinds := [.data, .data, .data, .data, .sentinel, .sentinel, .pinned], laidTests := true, laidLooks := .later }
def RenderAllUptoCardSaid : Prop := Claim7.holds Tryz.pinned (.plain (OpenSpec.upto renderAllSpec)) renderAllUptoCard

/-- THE SECOND FORM's CARD OF 'matinslaw11.RenderBack'. -/
def renderBackUptoCard : Claim7 := { stood := { row := renderBackUptoRow, standIns := [], harness := (true, "ab16921d730ee26c7ffbcc8266dfc012bbe809f60ceeb5160c0239c918054540"), looks := true }, kinds := [], alts := [], laidByText := true, laidKinds := [.data, .data, .data, .data, .sentinel, .sentinel, .pinned], laidTests := true, laidLooks := .later }
def RenderBackUptoCardSaid : Prop := Claim7.holds Tryz.pinned (.plain (OpenSpec.upto renderBackSpec)) renderBackUptoCard

/-- THE SECOND FORM's CARD OF 'matinslaw11.RenderFew'. -/
def renderFewUptoCard : Claim7 := { stood := { row := renderFewUptoRow, standIns := [], harness := (true, "ab16921d730ee26c7ffbcc8266dfc012bbe809f60ceeb5160c0239c918054540"), looks := true }, kinds := [], alts := [], laidByText := true, laidKinds := [.data, .data, .data, .data, .sentinel, .sentinel, .pinned], laidTests := true, laidLooks := .later }
def RenderFewUptoCardSaid : Prop := Claim7.holds Tryz.pinned (.plain (OpenSpec.upto renderFewSpec)) renderFewUptoCard

/-- THE SECOND FORM's CARD OF 'matinslaw11.RenderTurn'. -/
def renderTurnUptoCard : Claim7 := { stood := { row := renderTurnUptoRow, standIns := [], harness := (true, "ab16921d730ee26c7ffbcc8266dfc012bbe809f60ceeb5160c0239c918054540"), looks := true }, kinds := [], alts := [], laidByText := true, laidKinds := [.data, .data, .data, .data, .sentinel, .sentinel, .pinned], laidTests := true, laidLooks := .later }
def RenderTurnUptoCardSaid : Prop := Claim7.holds Tryz.pinned (.plain (OpenSpec.upto renderTurnSpec)) renderTurnUptoCard
end Rows
end Go.Proofs.YtmgmbeipbeknaaaGreatDoor
