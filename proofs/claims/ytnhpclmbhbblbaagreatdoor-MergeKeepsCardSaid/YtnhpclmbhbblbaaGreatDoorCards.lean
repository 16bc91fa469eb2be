/-
  DERIVED. GIVEN WITH THE SEED: THE CARDS: each row of YtnhpclmbhbblbaaGreatDoorRows.lean that lists a variable, with what it lists TIED to the program's text (the seventh form; the later family's looks); each row that meets fmt, with fmt's text TOLD by the authors' own Lean function (tested against real Go, not proved from fmt's source: count such statements apart). THE CARD IS WHAT COUNTS. Prove the row's statement (the work); the ties are given (YtnhpclmbhbblbaaGreatDoorTie.lean); close each card by the builder's one call (the guide's Derived/Test/ToyasCard.lean, 'card_holds'). Laid BY PROGRAM, IN A SANDBOX (cutbox-door.mjs). By AI agents, Wed Nov 11 2026. No macro, syntax, notation, axiom, sorry.
-/
import Derived.Test.YtnhpclmbhbblbaaGreatDoorRows
import GoSem.ClaimSeven
namespace Go.Proofs.YtnhpclmbhbblbaaGreatDoor
namespace Rows

/-- THE TIED CARD OF 'tetherpostlaw.MergeMerges'. -/
def mergeMergesCard : Claim7 := { stood := { row := mergeMergesRow, standIns := [], harness := (true, "d3763f7cc1e5f5c3b88df2e12fcd59a0a8039997afa9dd854e2298a0a5d966f9"), looks := false }, kinds := [], alts := [], laidByText := true, laidKinds := [.data, .data, .data, .data, .pinned], laidTests := true, laidLooks := .later }
def MergeMergesCardSaid : Prop := Claim7.holds Tryz.pinned (.plain (OpenSpec.ofChange mergeMergesSpec)) mergeMergesCard

/-- THE TIED CARD OF 'tetherpostlaw.MergeKeeps'. -/
def mergeKeepsCard : Claim7 := { stood := { row := mergeKeepsRow, standIns := [], harness := (true, "d3763f7cc1e5f5c3b88df2e12fcd59a0a8039997afa9dd854e2298a0a5d966f9"), looks := false }, kinds := [], alts := [], laidByText := true, laidKinds := [.data, .data, .data, .data, .pinned], laidTests := true, laidLooks := .later }
def MergeKeepsCardSaid : Prop := Claim7.holds Tryz.pinned (.plain (OpenSpec.ofChange mergeKeepsSpec)) mergeKeepsCard

/-- THE TIED CARD OF 'tetherpostlaw.ClientHears'. -/
def clientHearsCard : Claim7 := { stood := { row := clientHearsRow, standIns := [], harness := (true, "d3763f7cc1e5f5c3b88df2e12fcd59a0a8039997afa9dd854e2298a0a5d966f9"), looks := false }, kinds := [], alts := [], laidByText := true, laidKinds := [.data, .data, .data, .data, .pinned], laidTests := true, laidLooks := .later }
def ClientHearsCardSaid : Prop := Claim7.holds Tryz.pinned (.plain (OpenSpec.ofChange clientHearsSpec)) clientHearsCard

/-- THE TIED CARD OF 'tetherpostlaw.ClientKeeps'. -/
def clientKeepsCard : Claim7 := { stood := { row := clientKeepsRow, standIns := [], harness := (true, "d3763f7cc1e5f5c3b88df2e12fcd59a0a8039997afa9dd854e2298a0a5d966f9"), looks := false }, kinds := [], alts := [], laidByText := true, laidKinds := [.data, .data, .data, .data, .pinned], laidTests := true, laidLooks := .later }
def ClientKeepsCardSaid : Prop := Claim7.holds Tryz.pinned (.plain (OpenSpec.ofChange clientKeepsSpec)) clientKeepsCard

/-- THE SECOND FORM's CARD OF 'tetherpostlaw.MergeMerges'. -/
def mergeMergesUptoCard : Claim7 := { stood := { row := mergeMergesUptoRow, standIns := [], harness := (true, "d3763f7cc1e5f5c3b88df2e12fcd59a0a8039997afa9dd854e2298a0a5d966f9"), looks := false }, kinds := [], alts := [], laidByText := true, laidKinds := [.data, .data, .data, .data, .pinned], laidTests := true, laidLooks := .later }
def MergeMergesUptoCardSaid : Prop := Claim7.holds Tryz.pinned (.plain (OpenSpec.upto mergeMergesSpec)) mergeMergesUptoCard

/-- THE SECOND FORM's CARD OF 'tetherpostlaw.MergeKeeps'. -/
def mergeKeepsUptoCard : Claim7 := { stood := { row := mergeKeepsUptoRow, standIns := [], harness := (true, "d3763f7cc1e5f5c3b88df2e12fcd59a0a8039997afa9dd854e2298a0a5d966f9"), looks := false }, kinds := [], alts := [], laidByText := true, laidKinds := [.data, .data, .data, .data, .pinned], laidTests := true, laidLooks := .later }
def MergeKeepsUptoCardSaid : Prop := Claim7.holds Tryz.pinned (.plain (OpenSpec.upto mergeKeepsSpec)) mergeKeepsUptoCard

/-- THE SECOND FORM's CARD OF 'tetherpostlaw.ClientHears'. -/
def clientHearsUptoCard : Claim7 := { stood := { row := clientHearsUptoRow, standIns := [], harness := (true, "d3763f7cc1e5f5c3b88df2e12fcd59a0a8039997afa9dd854e2298a0a5d966f9"), looks := false }, kinds := [], alts := [], laidByText := true, laidKinds := [.data, .data, .data, .data, .pinned], laidTests := true, laidLooks := .later }
def ClientHearsUptoCardSaid : Prop := Claim7.holds Tryz.pinned (.plain (OpenSpec.upto clientHearsSpec)) clientHearsUptoCard

/-- THE SECOND FORM's CARD OF 'tetherpostlaw.ClientKeeps'. -/
def clientKeepsUptoCard : Claim7 := { stood := { row := clientKeepsUptoRow, standIns := [], harness := (true, "d3763f7cc1e5f5c3b88df2e12fcd59a0a8039997afa9dd854e2298a0a5d966f9"), looks := false }, kinds := [], alts := [], laidByText := true, laidKinds := [.data, .data, .data, .data, .pinned], laidTests := true, laidLooks := .later }
def ClientKeepsUptoCardSaid : Prop := Claim7.holds Tryz.pinned (.plain (OpenSpec.upto clientKeepsSpec)) clientKeepsUptoCard
end Rows
end Go.Proofs.YtnhpclmbhbblbaaGreatDoor
