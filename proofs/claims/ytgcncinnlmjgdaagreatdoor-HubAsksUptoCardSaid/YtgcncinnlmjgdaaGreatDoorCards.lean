/-
  DERIVED. GIVEN WITH THE SEED: THE CARDS: each row of YtgcncinnlmjgdaaGreatDoorRows.lean that lists a variable, with what it lists TIED to the program's text (the seventh form; the later family's looks); each row that meets fmt, with fmt's text TOLD by the authors' own Lean function (tested against real Go, not proved from fmt's source: count such statements apart). THE CARD IS WHAT COUNTS. Prove the row's statement (the work); the ties are given (YtgcncinnlmjgdaaGreatDoorTie.lean); close each card by the builder's one call (the guide's Derived/Test/ToyasCard.lean, 'card_holds'). Laid BY PROGRAM, IN A SANDBOX (cutbox-door.mjs). By AI agents, Wed Nov 11 2026. No macro, syntax, notation, axiom, sorry.
-/
import Derived.Test.YtgcncinnlmjgdaaGreatDoorRows
import GoSem.ClaimSeven
namespace Go.Proofs.YtgcncinnlmjgdaaGreatDoor
namespace Rows

/-- THE TIED CARD OF 'tetherpostlaw.HubTexts'. -/
def hubTextsCard : Claim7 := { stood := { row := hubTextsRow, standIns := [], harness := (true, "2fb3b996dbb6146d7b25d1000e701e40752d1286eea4a58d260338c668c8b911"), looks := true }, kinds := [], alts := [], laidByText := true, laidKinds := [.data, .data, .data, .data, .sentinel, .sentinel, .pinned], laidTests := true, laidLooks := .later }
def HubTextsCardSaid : Prop := Claim7.holds Tryz.pinned (.plain (OpenSpec.ofChange hubTextsSpec)) hubTextsCard

/-- THE TIED CARD OF 'tetherpostlaw.HubAsks'. -/
def hubAsksCard : Claim7 := { stood := { row := hubAsksRow, standIns := [], harness := (true, "2fb3b996dbb6146d7b25d1000e701e40752d1286eea4a58d260338c668c8b911"), looks := true }, kinds := [], alts := [], laidByText := true, laidKinds := [.data, .data, .data, .data, .sentinel, .sentinel, .pinned], laidTests := true, laidLooks := .later }
def HubAsksCardSaid : Prop := Claim7.holds Tryz.pinned (.plain (OpenSpec.ofChange hubAsksSpec)) hubAsksCard

/-- THE SECOND FORM's CARD OF 'tetherpostlaw.HubTexts'. -/
def hubTextsUptoCard : Claim7 := { stood := { row := hubTextsUptoRow, standIns := [], harness := (true, "2fb3b996dbb6146d7b25d1000e701e40752d1286eea4a58d260338c668c8b911"), looks := true }, kinds := [], alts := [], laidByText := true, laidKinds := [.data, .data, .data, .data, .sentinel, .sentinel, .pinned], laidTests := true, laidLooks := .later }
def HubTextsUptoCardSaid : Prop := Claim7.holds Tryz.pinned (.plain (OpenSpec.upto hubTextsSpec)) hubTextsUptoCard

/-- THE SECOND FORM's CARD OF 'tetherpostlaw.HubAsks'. -/
def hubAsksUptoCard : Claim7 := { stood := { row := hubAsksUptoRow, standIns := [], harness := (true, "2fb3b996dbb6146d7b25d1000e701e40752d1286eea4a58d260338c668c8b911"), looks := true }, kinds := [], alts := [], laidByText := true, laidKinds := [.data, .data, .data, .data, .sentinel, .sentinel, .pinned], laidTests := true, laidLooks := .later }
def HubAsksUptoCardSaid : Prop := Claim7.holds Tryz.pinned (.plain (OpenSpec.upto hubAsksSpec)) hubAsksUptoCard
end Rows
end Go.Proofs.YtgcncinnlmjgdaaGreatDoor
