/-
  DERIVED. GIVEN WITH THE SEED: THE CARDS: each row of YtaofmmnfenlofaaGreatDoorRows.lean that lists a variable, with what it lists TIED to the program's text (the seventh form; the later family's looks); each row that meets fmt, with fmt's text TOLD by the authors' own Lean function (tested against real Go, not proved from fmt's source: count such statements apart). THE CARD IS WHAT COUNTS. Prove the row's statement (the work); the ties are given (YtaofmmnfenlofaaGreatDoorTie.lean); close each card by the builder's one call (the guide's Derived/Test/ToyasCard.lean, 'card_holds'). Laid BY PROGRAM, IN A SANDBOX (cutbox-door.mjs). By AI agents, Wed Nov 11 2026. No macro, syntax, notation, axiom, sorry.
-/
import Derived.Test.YtaofmmnfenlofaaGreatDoorRows
import GoSem.ClaimSeven
namespace Go.Proofs.YtaofmmnfenlofaaGreatDoor
namespace Rows

/-- THE TIED CARD OF 'taskmastertop.TopTime'. -/
def topTimeCard : Claim7 := { stood := { row := topTimeRow, standIns := [], harness := (true, "fdb0e478c9b6f004c843eecbc2fbc7de271a0ceb54d97125a619e3f18e645329"), looks := false }, kinds := [], alts := [], laidByText := true, laidKinds := [.data, .data, .data, .listed, .data], laidTests := true, laidLooks := .later }
def TopTimeCardSaid : Prop := Claim7.holds Tryz.pinned (.plain (OpenSpec.ofChange topTimeSpec)) topTimeCard

/-- THE TIED CARD OF 'taskmastertop.TopCut'. -/
def topCutCard : Claim7 := { stood := { row := topCutRow, standIns := [], harness := (true, "fdb0e478c9b6f004c843eecbc2fbc7de271a0ceb54d97125a619e3f18e645329"), looks := false }, kinds := [], alts := [], laidByText := true, laidKinds := [.data, .data, .data, .listed, .data], laidTests := true, laidLooks := .later }
def TopCutCardSaid : Prop := Claim7.holds Tryz.pinned (.plain (OpenSpec.ofChange topCutSpec)) topCutCard

/-- THE TIED CARD OF 'taskmastertop.TopSpread'. -/
def topSpreadCard : Claim7 := { stood := { row := topSpreadRow, standIns := [], harness := (true, "fdb0e478c9b6f004c843eecbc2fbc7de271a0ceb54d97125a619e3f18e645329"), looks := false }, kinds := [], alts := [], laidByText := true, laidKinds := [.data, .data, .data, .listed, .data], laidTests := true, laidLooks := .later }
def TopSpreadCardSaid : Prop := Claim7.holds Tryz.pinned (.plain (OpenSpec.ofChange topSpreadSpec)) topSpreadCard

/-- THE TIED CARD OF 'taskmastertop.TopRaise'. -/
def topRaiseCard : Claim7 := { stood := { row := topRaiseRow, standIns := [], harness := (true, "fdb0e478c9b6f004c843eecbc2fbc7de271a0ceb54d97125a619e3f18e645329"), looks := false }, kinds := [], alts := [], laidByText := true, laidKinds := [.data, .data, .data, .listed, .data], laidTests := true, laidLooks := .later }
def TopRaiseCardSaid : Prop := Claim7.holds Tryz.pinned (.plain (OpenSpec.ofChange topRaiseSpec)) topRaiseCard

/-- THE SECOND FORM's CARD OF 'taskmastertop.TopTime'. -/
def topTimeUptoCard : Claim7 := { stood := { row := topTimeUptoRow, standIns := [], harness := (true, "fdb0e478c9b6f004c843eecbc2fbc7de271a0ceb54d97125a619e3f18e645329"), looks := false }, kinds := [], alts := [], laidByText := true, laidKinds := [.data, .data, .data, .listed, .data], laidTests := true, laidLooks := .later }
def TopTimeUptoCardSaid : Prop := Claim7.holds Tryz.pinned (.plain (OpenSpec.upto topTimeSpec)) topTimeUptoCard

/-- THE SECOND FORM's CARD OF 'taskmastertop.TopCut'. -/
def topCutUptoCard : Claim7 := { stood := { row := topCutUptoRow, standIns := [], harness := (true, "fdb0e478c9b6f004c843eecbc2fbc7de271a0ceb54d97125a619e3f18e645329"), looks := false }, kinds := [], alts := [], laidByText := true, laidKinds := [.data, .data, .data, .listed, .data], laidTests := true, laidLooks := .later }
def TopCutUptoCardSaid : Prop := Claim7.holds Tryz.pinned (.plain (OpenSpec.upto topCutSpec)) topCutUptoCard

/-- THE SECOND FORM's CARD OF 'taskmastertop.TopSpread'. -/
def topSpreadUptoCard : Claim7 := { stood := { row := topSpreadUptoRow, standIns := [], harness := (true, "fdb0e478c9b6f004c843eecbc2fbc7de271a0ceb54d97125a619e3f18e645329"), looks := false }, kinds := [], alts := [], laidByText := true, laidKinds := [.data, .data, .data, .listed, .data], laidTests := true, laidLooks := .later }
def TopSpreadUptoCardSaid : Prop := Claim7.holds Tryz.pinned (.plain (OpenSpec.upto topSpreadSpec)) topSpreadUptoCard

/-- THE SECOND FORM's CARD OF 'taskmastertop.TopRaise'. -/
def topRaiseUptoCard : Claim7 := { stood := { row := topRaiseUptoRow, standIns := [], harness := (true, "fdb0e478c9b6f004c843eecbc2fbc7de271a0ceb54d97125a619e3f18e645329"), looks := false }, kinds := [], alts := [], laidByText := true, laidKinds := [.data, .data, .data, .listed, .data], laidTests := true, laidLooks := .later }
def TopRaiseUptoCardSaid : Prop := Claim7.holds Tryz.pinned (.plain (OpenSpec.upto topRaiseSpec)) topRaiseUptoCard
end Rows
end Go.Proofs.YtaofmmnfenlofaaGreatDoor
